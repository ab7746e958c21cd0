/- The reference's builder: the walk of builder.vertex. -/
import Derived.Test.YtlealdhgajomhaaBddC
namespace Go.Proofs.Ytlealdhgajomhaa
set_option linter.unusedVariables false
open Go.AI
set_option linter.unusedSimpArgs false

/-- what the builder holds -/
def BL (σ : St) (n0 b : Nat) (l : List Vtx) : Prop := ∃ s sid, σ.row b = some ([s], boxMeta) ∧ Own σ sid 3 s l.length (flat l) ∧ n0 ≤ b ∧ b < σ.next ∧ n0 ≤ sid ∧ sid ≠ b
theorem BL.mono {σ σ' : St} {n0 b : Nat} {l : List Vtx} (h : BL σ n0 b l) (e : EX σ σ') : BL σ' n0 b l := by
  obtain ⟨s, sid, h1, h2, h3, h4, h5⟩ := h
  have hs : sid < σ.next := by obtain ⟨k, m, _, h, _⟩ := h2; exact h
  exact ⟨s, sid, (e.row b h4).trans h1, h2.mono e.next (e.row sid hs), h3, by have := e.next; omega, h5⟩

theorem tb_take {row : List Value} {off N H : Nat} {t : List Bool} (h : (row.drop off).take N = t.map Value.bool) (hH : H ≤ N) : (row.drop off).take H = (t.take H).map Value.bool := by
  rw [List.map_take, ← h, List.take_take, Nat.min_eq_left hH]
theorem tb_drop {row : List Value} {off N H : Nat} {t : List Bool} (h : (row.drop off).take N = t.map Value.bool) : (row.drop (off + H)).take (N - H) = (t.drop H).map Value.bool := by
  rw [List.map_drop, ← h, List.drop_take, List.drop_drop]

/-- what builder.vertex does, at a table of 2 ^ k entries -/
def VSpec (n0 b k : Nat) : Prop := ∀ (t : List Bool) (l : List Vtx) (σ : St) (tid off c N : Nat) (row : List Value) (m : Mta), N = 2 ^ k → t.length = N → 2 ≤ l.length → l.length + N ≤ 5000 →
    tid < n0 → n0 ≤ σ.next → σ.row tid = some (row, m) → m.z = 1 → (row.drop off).take N = t.map Value.bool → BL σ n0 b l → Fr σ →
    wpc Try.prog 59 #[.pointer (some ⟨b, 0, none⟩), .slice (some ⟨tid, off, none⟩) N c, .int .i64 (10 - (k : Int))] σ fun r σ' => r = .int .i64 (bld k t l).1 ∧ BL σ' n0 b (bld k t l).2 ∧ EXn n0 σ σ'

def pre (t : List Bool) (q : Nat) : Bool := decide (∀ j, j < q → bt t j = bt t 0)
theorem bld_same {t : List Bool} (h : allSame t = true) (k : Nat) (l : List Vtx) : bld k t l = (if bt t 0 = true then 1 else 0, l) := by
  cases k with
  | zero => rfl
  | succ k => simp only [bld, h, if_true]
theorem pre_s {t : List Bool} {q : Nat} : pre t (q + 1) = (pre t q && (bt t q == bt t 0)) := by
  by_cases h : bt t q = bt t 0
  · have : (bt t q == bt t 0) = true := by simp [h]
    rw [this, Bool.and_true]
    unfold pre
    congr 1
    refine propext ⟨fun g j hj => g j (by omega), fun g j hj => ?_⟩
    by_cases e : j = q
    · rw [e]; exact h
    · exact g j (by omega)
  · have : (bt t q == bt t 0) = false := by simpa using h
    rw [this, Bool.and_false]
    unfold pre
    simp only [decide_eq_false_iff_not]
    exact fun g => h (g q (by omega))

theorem vertex_step (n0 b k : Nat) (hk : k ≤ 10) (ih : ∀ k', k = k' + 1 → VSpec n0 b k') : VSpec n0 b k := by
  intro t l σ tid off c N row m hN hlen hl2 hl5 htid hn0 hrow hmz hrt hB hF
  have hN0 : 0 < N := by rw [hN]; exact Nat.two_pow_pos k
  refine body_go Try.func59 rfl ?_
  have hr := Try.results59
  simp only [c_seq, RUNA, Nat.reduceAdd, Nat.reduceMod, Nat.reduceDiv, Nat.reduceSub, Nat.reduceMul, Nat.reduceEqDiff, Nat.reduceBEq, Nat.reduceLeDiff, Int.reduceToNat, fillS, wantG, vBox, Value.cells, one, putAt, Option.getD_some, Option.map_some, Option.bind_some, ne_eq, Option.some.injEq, Prod.mk.injEq, exists_and_left, exists_eq_left', exists_eq_left, List.size_toArray, List.length_cons, List.length_nil, if_true, if_false, exists_eq', exists_const, List.getElem?_cons_zero, List.getElem?_cons_succ, List.map_toArray, List.map_cons, List.map_nil, beq_iff_eq, List.all_cons, List.all_nil, cond_true, List.set_cons_zero, List.set_cons_succ, List.drop_zero, List.drop_succ_cons, List.take_succ_cons, List.take_zero, List.getElem?_toArray, Option.map_none, Option.getD_none, hr]
  refine loop_go (fun m S τ => S.at 0 = .pointer (some ⟨b, 0, none⟩) ∧ S.at 1 = .slice (some ⟨tid, off, none⟩) N c ∧ S.at 2 = .int .i64 (10 - (k : Int)) ∧ EX σ τ ∧
    ∃ q : Nat, S.at 7 = .bool (pre t q) ∧ S.at 8 = .int .i64 q ∧ 1 ≤ q ∧ q ≤ N ∧ m = N - q) (N - 1) ?_ ?_
  · simp only [c_seq, RUNA, Nat.reduceAdd, Nat.reduceMod, Nat.reduceDiv, Nat.reduceSub, Nat.reduceMul, Nat.reduceEqDiff, Nat.reduceBEq, Nat.reduceLeDiff, Int.reduceToNat, fillS, wantG, vBox, Value.cells, one, putAt, Option.getD_some, Option.map_some, Option.bind_some, ne_eq, Option.some.injEq, Prod.mk.injEq, exists_and_left, exists_eq_left', exists_eq_left, List.size_toArray, List.length_cons, List.length_nil, if_true, if_false, exists_eq', exists_const, List.getElem?_cons_zero, List.getElem?_cons_succ, List.map_toArray, List.map_cons, List.map_nil, beq_iff_eq, List.all_cons, List.all_nil, cond_true, List.set_cons_zero, List.set_cons_succ, List.drop_zero, List.drop_succ_cons, List.take_succ_cons, List.take_zero, List.getElem?_toArray, Option.map_none, Option.getD_none]
    refine ⟨?_, 1, ?_, rfl, by omega, by omega, rfl⟩
    · repeat first | assumption | exact EXn.refl _ _ | refine EXn.more ?_ _ | refine EXn.put ?_ (by omega) _ | refine EX.trans ?_ (by assumption)
    · have : pre t 1 = true := by simp only [pre, decide_eq_true_eq]; intro j hj; rw [show j = 0 by omega]
      rw [this]
  · rintro _ S τ ⟨s0, s1, s2, hE, q, s7, s8, hq1, hq2, rfl⟩
    have rt : τ.row tid = some (row, m) := (hE.row tid (by omega)).trans hrow
    have t0 : row[off]? = some (.bool (bt t 0)) := tb_at (t := t) (i := 0) (by rw [hlen]; exact hrt) (by omega)
    have z0 : (0 : Int) ≤ 0 := by omega
    have z1 : (0 : Int) < (N : Int) := by omega
    by_cases hlt : q < N
    · have hd : decide ((q : Int) < (N : Int)) = true := by simp; omega
      have tq : row[off + q]? = some (.bool (bt t q)) := tb_at (t := t) (i := q) (by rw [hlen]; exact hrt) (by omega)
      have z2 : (0 : Int) ≤ (q : Int) := by omega
      have z3 : (q : Int) < (N : Int) := by omega
      have hw : IntKind.i64.wrap ((q : Int) + 1) = ((q + 1 : Nat) : Int) := by rw [wrap64 (by omega) (by omega)]; rfl
      simp only [c_seq, RUNA, Nat.reduceAdd, Nat.reduceMod, Nat.reduceDiv, Nat.reduceSub, Nat.reduceMul, Nat.reduceEqDiff, Nat.reduceBEq, Nat.reduceLeDiff, Int.reduceToNat, fillS, wantG, vBox, Value.cells, one, putAt, Option.getD_some, Option.map_some, Option.bind_some, ne_eq, Option.some.injEq, Prod.mk.injEq, exists_and_left, exists_eq_left', exists_eq_left, List.size_toArray, List.length_cons, List.length_nil, if_true, if_false, exists_eq', exists_const, List.getElem?_cons_zero, List.getElem?_cons_succ, List.map_toArray, List.map_cons, List.map_nil, beq_iff_eq, List.all_cons, List.all_nil, cond_true, List.set_cons_zero, List.set_cons_succ, List.drop_zero, List.drop_succ_cons, List.take_succ_cons, List.take_zero, List.getElem?_toArray, Option.map_none, Option.getD_none, s0, s1, s2, s7, s8, hd, ln43]
      refine d_go (ms := [0, 1, 3, 3, 15, 31, 3, 67, 195, 511, 1023, 2047]) (order := [0, 1, 2, 3, 4, 5, 6, 7, 8, 9, 10, 11]) (by kernel_rfl) (by kernel_rfl) (by kernel_rfl) ?_
      cases hp : pre t q with
      | true =>
        rw [hp] at s7
        simp only [YRUNA, Nat.reduceShiftRight, bit, List.filterMap_cons, List.filterMap_nil, List.filter_cons, List.filter_nil, List.forall_mem_cons, List.not_mem_nil, implies_true, List.getD_cons_zero, List.getD_cons_succ, eq_self, c_seq, RUNA, Nat.reduceAdd, Nat.reduceMod, Nat.reduceDiv, Nat.reduceSub, Nat.reduceMul, Nat.reduceEqDiff, Nat.reduceBEq, Nat.reduceLeDiff, Int.reduceToNat, fillS, wantG, vBox, Value.cells, one, putAt, Option.getD_some, Option.map_some, Option.bind_some, ne_eq, Option.some.injEq, Prod.mk.injEq, exists_and_left, exists_eq_left', exists_eq_left, List.size_toArray, List.length_cons, List.length_nil, if_true, if_false, exists_eq', exists_const, List.getElem?_cons_zero, List.getElem?_cons_succ, List.map_toArray, List.map_cons, List.map_nil, beq_iff_eq, List.all_cons, List.all_nil, cond_true, List.set_cons_zero, List.set_cons_succ, List.drop_zero, List.drop_succ_cons, List.take_succ_cons, List.take_zero, List.getElem?_toArray, Option.map_none, Option.getD_none, s0, s1, s2, s7, s8, ia43 z2 z3, ia43 z0 z1, ld4, rt, tq, t0, n_eqb Try.underlying4, hw]
        refine ⟨N - (q + 1), by omega, ?_, q + 1, ?_, rfl, by omega, by omega, rfl⟩
        · repeat first | assumption | exact EXn.refl _ _ | refine EXn.more ?_ _ | refine EXn.put ?_ (by omega) _ | refine EX.trans ?_ (by assumption)
        · rw [pre_s, hp, Bool.true_and]
      | false =>
        rw [hp] at s7
        simp only [YRUNA, Nat.reduceShiftRight, bit, List.filterMap_cons, List.filterMap_nil, List.filter_cons, List.filter_nil, List.forall_mem_cons, List.not_mem_nil, implies_true, List.getD_cons_zero, List.getD_cons_succ, eq_self, c_seq, RUNA, Nat.reduceAdd, Nat.reduceMod, Nat.reduceDiv, Nat.reduceSub, Nat.reduceMul, Nat.reduceEqDiff, Nat.reduceBEq, Nat.reduceLeDiff, Int.reduceToNat, fillS, wantG, vBox, Value.cells, one, putAt, Option.getD_some, Option.map_some, Option.bind_some, ne_eq, Option.some.injEq, Prod.mk.injEq, exists_and_left, exists_eq_left', exists_eq_left, List.size_toArray, List.length_cons, List.length_nil, if_true, if_false, exists_eq', exists_const, List.getElem?_cons_zero, List.getElem?_cons_succ, List.map_toArray, List.map_cons, List.map_nil, beq_iff_eq, List.all_cons, List.all_nil, cond_true, List.set_cons_zero, List.set_cons_succ, List.drop_zero, List.drop_succ_cons, List.take_succ_cons, List.take_zero, List.getElem?_toArray, Option.map_none, Option.getD_none, s0, s1, s2, s7, s8, hw]
        refine ⟨N - (q + 1), by omega, ?_, q + 1, ?_, rfl, by omega, by omega, rfl⟩
        · repeat first | assumption | exact EXn.refl _ _ | refine EXn.more ?_ _ | refine EXn.put ?_ (by omega) _ | refine EX.trans ?_ (by assumption)
        · rw [pre_s, hp, Bool.false_and]
    · have hd : decide ((q : Int) < (N : Int)) = false := by simp; omega
      have hqN : q = N := by omega
      cases hp : pre t q with
      | true =>
        rw [hp] at s7
        have hs : allSame t = true := by rw [← hp, hqN, ← hlen]; rfl
        rw [bld_same hs]
        cases h0 : bt t 0 with
        | true =>
          rw [h0] at t0
          simp only [c_seq, RUNA, Nat.reduceAdd, Nat.reduceMod, Nat.reduceDiv, Nat.reduceSub, Nat.reduceMul, Nat.reduceEqDiff, Nat.reduceBEq, Nat.reduceLeDiff, Int.reduceToNat, fillS, wantG, vBox, Value.cells, one, putAt, Option.getD_some, Option.map_some, Option.bind_some, ne_eq, Option.some.injEq, Prod.mk.injEq, exists_and_left, exists_eq_left', exists_eq_left, List.size_toArray, List.length_cons, List.length_nil, if_true, if_false, exists_eq', exists_const, List.getElem?_cons_zero, List.getElem?_cons_succ, List.map_toArray, List.map_cons, List.map_nil, beq_iff_eq, List.all_cons, List.all_nil, cond_true, List.set_cons_zero, List.set_cons_succ, List.drop_zero, List.drop_succ_cons, List.take_succ_cons, List.take_zero, List.getElem?_toArray, Option.map_none, Option.getD_none, s0, s1, s2, s7, s8, hd, ln43, ia43 z0 z1, ld4, rt, t0, hr]
          refine ⟨hB.mono ?_, EXn.weak (n := σ.next) ?_ hn0⟩
          · repeat first | assumption | exact EXn.refl _ _ | refine EXn.more ?_ _ | refine EXn.put ?_ (by omega) _ | refine EX.trans ?_ (by assumption)
          · repeat first | assumption | exact EXn.refl _ _ | refine EXn.more ?_ _ | refine EXn.put ?_ (by omega) _ | refine EX.trans ?_ (by assumption)
        | false =>
          rw [h0] at t0
          simp only [c_seq, RUNA, Nat.reduceAdd, Nat.reduceMod, Nat.reduceDiv, Nat.reduceSub, Nat.reduceMul, Nat.reduceEqDiff, Nat.reduceBEq, Nat.reduceLeDiff, Int.reduceToNat, fillS, wantG, vBox, Value.cells, one, putAt, Option.getD_some, Option.map_some, Option.bind_some, ne_eq, Option.some.injEq, Prod.mk.injEq, exists_and_left, exists_eq_left', exists_eq_left, List.size_toArray, List.length_cons, List.length_nil, if_true, if_false, exists_eq', exists_const, List.getElem?_cons_zero, List.getElem?_cons_succ, List.map_toArray, List.map_cons, List.map_nil, beq_iff_eq, List.all_cons, List.all_nil, cond_true, List.set_cons_zero, List.set_cons_succ, List.drop_zero, List.drop_succ_cons, List.take_succ_cons, List.take_zero, List.getElem?_toArray, Option.map_none, Option.getD_none, s0, s1, s2, s7, s8, hd, ln43, ia43 z0 z1, ld4, rt, t0, hr]
          refine ⟨hB.mono ?_, EXn.weak (n := σ.next) ?_ hn0⟩
          · repeat first | assumption | exact EXn.refl _ _ | refine EXn.more ?_ _ | refine EXn.put ?_ (by omega) _ | refine EX.trans ?_ (by assumption)
          · repeat first | assumption | exact EXn.refl _ _ | refine EXn.more ?_ _ | refine EXn.put ?_ (by omega) _ | refine EX.trans ?_ (by assumption)
      | false =>
        rw [hp] at s7
        have hs : allSame t = false := by rw [← hp, hqN, ← hlen]; rfl
        have hk0 : k ≠ 0 := by
          intro h0
          rw [h0] at hN
          have : allSame t = true := by simp only [allSame, decide_eq_true_eq]; intro j hj; rw [show j = 0 by omega]
          rw [hs] at this; cases this
        obtain ⟨k', rfl⟩ : ∃ k', k = k' + 1 := ⟨k - 1, by omega⟩
        have ih := ih k' rfl
        obtain ⟨H, hH⟩ : ∃ H, H = 2 ^ k' := ⟨_, rfl⟩
        have hNH : N = 2 * H := by rw [hN, hH, Nat.pow_succ]; omega
        have hdiv : IntKind.i64.wrap (Int.tdiv (N : Int) 2) = (H : Int) := by
          rw [show Int.tdiv (N : Int) 2 = (H : Int) by rw [hNH, Int.natCast_mul]; exact Int.mul_tdiv_cancel_left _ (by decide)]
          exact wrap64 (by omega) (by omega)
        have hi1 : IntKind.i64.wrap (10 - ((k' + 1 : Nat) : Int) + 1) = 10 - (k' : Int) := by rw [wrap64 (by omega) (by omega)]; omega
        have two0 : (2 : Int) ≠ 0 := by decide
        simp only [c_seq, RUNA, Nat.reduceAdd, Nat.reduceMod, Nat.reduceDiv, Nat.reduceSub, Nat.reduceMul, Nat.reduceEqDiff, Nat.reduceBEq, Nat.reduceLeDiff, Int.reduceToNat, fillS, wantG, vBox, Value.cells, one, putAt, Option.getD_some, Option.map_some, Option.bind_some, ne_eq, Option.some.injEq, Prod.mk.injEq, exists_and_left, exists_eq_left', exists_eq_left, List.size_toArray, List.length_cons, List.length_nil, if_true, if_false, exists_eq', exists_const, List.getElem?_cons_zero, List.getElem?_cons_succ, List.map_toArray, List.map_cons, List.map_nil, beq_iff_eq, List.all_cons, List.all_nil, cond_true, List.set_cons_zero, List.set_cons_succ, List.drop_zero, List.drop_succ_cons, List.take_succ_cons, List.take_zero, List.getElem?_toArray, Option.map_none, Option.getD_none, s0, s1, s2, s7, s8, hd, ln43, n_quo two0, hdiv, hi1]
        refine slice_ex (slice_in (l := none) (h := some (H : Int)) Try.underlying43 sz4 (cs := row) (m := m) ?_ hmz rfl rfl (by simp) (by simp; omega) (by simp; omega)) ?_
        · simp only [row_more]; exact rt
        intro c1
        simp only [c_seq, RUNA, Nat.reduceAdd, Nat.reduceMod, Nat.reduceDiv, Nat.reduceSub, Nat.reduceMul, Nat.reduceEqDiff, Nat.reduceBEq, Nat.reduceLeDiff, Int.reduceToNat, fillS, wantG, vBox, Value.cells, one, putAt, Option.getD_some, Option.map_some, Option.bind_some, ne_eq, Option.some.injEq, Prod.mk.injEq, exists_and_left, exists_eq_left', exists_eq_left, List.size_toArray, List.length_cons, List.length_nil, if_true, if_false, exists_eq', exists_const, List.getElem?_cons_zero, List.getElem?_cons_succ, List.map_toArray, List.map_cons, List.map_nil, beq_iff_eq, List.all_cons, List.all_nil, cond_true, List.set_cons_zero, List.set_cons_succ, List.drop_zero, List.drop_succ_cons, List.take_succ_cons, List.take_zero, List.getElem?_toArray, Option.map_none, Option.getD_none, s0, s1, s2, hi1]
        have e1 : EX σ ((((τ.more 4).more 1).more 4).more 8) := by repeat first | assumption | exact EXn.refl _ _ | refine EXn.more ?_ _ | refine EXn.put ?_ (by omega) _ | refine EX.trans ?_ (by assumption)
        have n1 := e1.next
        refine wpc_mono (ih (t.take H) l _ tid off c1 H row m hH (by simp; omega) hl2 (by omega) htid (by omega) ?_ hmz (tb_take hrt (by omega)) (hB.mono e1) (e1.fr hF)) ?_
        · simp only [row_more]; exact rt
        rintro r σ2 ⟨rfl, hB2, hE2⟩
        have e2 : EXn n0 σ σ2 := (e1.weak hn0).trans hE2
        have n2 := e2.next
        have rt2 : σ2.row tid = some (row, m) := (e2.row tid htid).trans hrow
        simp only [c_seq, RUNA, Nat.reduceAdd, Nat.reduceMod, Nat.reduceDiv, Nat.reduceSub, Nat.reduceMul, Nat.reduceEqDiff, Nat.reduceBEq, Nat.reduceLeDiff, Int.reduceToNat, fillS, wantG, vBox, Value.cells, one, putAt, Option.getD_some, Option.map_some, Option.bind_some, ne_eq, Option.some.injEq, Prod.mk.injEq, exists_and_left, exists_eq_left', exists_eq_left, List.size_toArray, List.length_cons, List.length_nil, if_true, if_false, exists_eq', exists_const, List.getElem?_cons_zero, List.getElem?_cons_succ, List.map_toArray, List.map_cons, List.map_nil, beq_iff_eq, List.all_cons, List.all_nil, cond_true, List.set_cons_zero, List.set_cons_succ, List.drop_zero, List.drop_succ_cons, List.take_succ_cons, List.take_zero, List.getElem?_toArray, Option.map_none, Option.getD_none, s0, s1, s2, hi1]
        refine slice_ex (slice_in (l := some (H : Int)) (h := none) Try.underlying43 sz4 (cs := row) (m := m) ?_ hmz rfl rfl (by simp) (by simp; omega) (by simp)) ?_
        · simp only [row_more]; exact rt2
        intro c2
        simp only [c_seq, RUNA, Nat.reduceAdd, Nat.reduceMod, Nat.reduceDiv, Nat.reduceSub, Nat.reduceMul, Nat.reduceEqDiff, Nat.reduceBEq, Nat.reduceLeDiff, Int.reduceToNat, fillS, wantG, vBox, Value.cells, one, putAt, Option.getD_some, Option.map_some, Option.bind_some, ne_eq, Option.some.injEq, Prod.mk.injEq, exists_and_left, exists_eq_left', exists_eq_left, List.size_toArray, List.length_cons, List.length_nil, if_true, if_false, exists_eq', exists_const, List.getElem?_cons_zero, List.getElem?_cons_succ, List.map_toArray, List.map_cons, List.map_nil, beq_iff_eq, List.all_cons, List.all_nil, cond_true, List.set_cons_zero, List.set_cons_succ, List.drop_zero, List.drop_succ_cons, List.take_succ_cons, List.take_zero, List.getElem?_toArray, Option.map_none, Option.getD_none, s0, s1, s2, hi1, show N - H = H by omega]
        have hA := bld_len k' (t.take H) l
        rw [← hH] at hA
        have hbs : bld (k' + 1) t l = if (bld k' (t.take H) l).1 = (bld k' (t.drop H) (bld k' (t.take H) l).2).1 then ((bld k' (t.take H) l).1, (bld k' (t.drop H) (bld k' (t.take H) l).2).2) else
          ((fnd (9 - (k' : Int), (bld k' (t.take H) l).1, (bld k' (t.drop H) (bld k' (t.take H) l).2).1) (bld k' (t.drop H) (bld k' (t.take H) l).2).2 : Int),
            if fnd (9 - (k' : Int), (bld k' (t.take H) l).1, (bld k' (t.drop H) (bld k' (t.take H) l).2).1) (bld k' (t.drop H) (bld k' (t.take H) l).2).2 < (bld k' (t.drop H) (bld k' (t.take H) l).2).2.length then (bld k' (t.drop H) (bld k' (t.take H) l).2).2 else (bld k' (t.drop H) (bld k' (t.take H) l).2).2 ++ [(9 - (k' : Int), (bld k' (t.take H) l).1, (bld k' (t.drop H) (bld k' (t.take H) l).2).1)]) := by
          rw [hH]; simp only [bld, hs, Bool.false_eq_true, if_false]
        rw [hbs]
        clear hbs
        generalize bld k' (t.take H) l = A at *
        have hC := bld_len k' (t.drop H) A.2
        rw [← hH] at hC
        have e2' : EXn n0 σ (σ2.more 8) := by repeat first | assumption | exact EXn.refl _ _ | refine EXn.more ?_ _ | refine EXn.put ?_ (by omega) _ | refine EX.trans ?_ (by assumption)
        refine wpc_mono (ih (t.drop H) A.2 _ tid (off + H) c2 H row m hH (by simp; omega) (by omega) (by omega) htid (by simp only [next_more]; omega) ?_ hmz ?_ (hB2.mono ((EX.refl σ2).more 8)) (e2'.fr hF)) ?_
        · simp only [row_more]; exact rt2
        · have := tb_drop (H := H) hrt; rwa [show N - H = H by omega] at this
        generalize bld k' (t.drop H) A.2 = B at *
        rintro r σ3 ⟨rfl, hB3, hE3⟩
        have e3 : EXn n0 σ σ3 := e2'.trans hE3
        have n3 := e3.next
        by_cases hAB : A.1 = B.1
        · have hAB' : (A.1 == B.1) = true := by simp [hAB]
          rw [if_pos hAB]
          simp only [c_seq, RUNA, Nat.reduceAdd, Nat.reduceMod, Nat.reduceDiv, Nat.reduceSub, Nat.reduceMul, Nat.reduceEqDiff, Nat.reduceBEq, Nat.reduceLeDiff, Int.reduceToNat, fillS, wantG, vBox, Value.cells, one, putAt, Option.getD_some, Option.map_some, Option.bind_some, ne_eq, Option.some.injEq, Prod.mk.injEq, exists_and_left, exists_eq_left', exists_eq_left, List.size_toArray, List.length_cons, List.length_nil, if_true, if_false, exists_eq', exists_const, List.getElem?_cons_zero, List.getElem?_cons_succ, List.map_toArray, List.map_cons, List.map_nil, beq_iff_eq, List.all_cons, List.all_nil, cond_true, List.set_cons_zero, List.set_cons_succ, List.drop_zero, List.drop_succ_cons, List.take_succ_cons, List.take_zero, List.getElem?_toArray, Option.map_none, Option.getD_none, s0, s1, s2, hAB', hr]
          refine ⟨hB3.mono ?_, ?_⟩
          · repeat first | assumption | exact EXn.refl _ _ | refine EXn.more ?_ _ | refine EXn.put ?_ (by omega) _ | refine EX.trans ?_ (by assumption)
          · repeat first | assumption | exact EXn.refl _ _ | refine EXn.more ?_ _ | refine EXn.put ?_ (by omega) _ | refine EX.trans ?_ (by assumption)
        · have hAB' : (A.1 == B.1) = false := by simp [hAB]
          rw [if_neg hAB]
          simp only [c_seq, RUNA, Nat.reduceAdd, Nat.reduceMod, Nat.reduceDiv, Nat.reduceSub, Nat.reduceMul, Nat.reduceEqDiff, Nat.reduceBEq, Nat.reduceLeDiff, Int.reduceToNat, fillS, wantG, vBox, Value.cells, one, putAt, Option.getD_some, Option.map_some, Option.bind_some, ne_eq, Option.some.injEq, Prod.mk.injEq, exists_and_left, exists_eq_left', exists_eq_left, List.size_toArray, List.length_cons, List.length_nil, if_true, if_false, exists_eq', exists_const, List.getElem?_cons_zero, List.getElem?_cons_succ, List.map_toArray, List.map_cons, List.map_nil, beq_iff_eq, List.all_cons, List.all_nil, cond_true, List.set_cons_zero, List.set_cons_succ, List.drop_zero, List.drop_succ_cons, List.take_succ_cons, List.take_zero, List.getElem?_toArray, Option.map_none, Option.getD_none, s0, s1, s2, hAB', hr]
          obtain ⟨x, hx⟩ : ∃ x : Vtx, x = (9 - (k' : Int), A.1, B.1) := ⟨_, rfl⟩
          rw [← hx]
          obtain ⟨sv, sid, b1, ⟨kc, mm, rfl, b3, b4, b5, b6⟩, b7, b8, b9, b10⟩ := hB3
          have hL : B.2.length < 6000 := by omega
          refine loop_go (fun m S τ => S.at 0 = .pointer (some ⟨b, 0, none⟩) ∧ S.at 2 = .int .i64 x.1 ∧ S.at 10 = .int .i64 x.2.1 ∧ S.at 11 = .int .i64 x.2.2 ∧ EX σ3 τ ∧
            ∃ j : Nat, S.at 12 = .int .i64 j ∧ 2 ≤ j ∧ j ≤ B.2.length ∧ m = B.2.length - j ∧ ∀ q, 2 ≤ q → q < j → vx B.2 q ≠ x) (B.2.length - 2) ?_ ?_
          · simp only [c_seq, RUNA, Nat.reduceAdd, Nat.reduceMod, Nat.reduceDiv, Nat.reduceSub, Nat.reduceMul, Nat.reduceEqDiff, Nat.reduceBEq, Nat.reduceLeDiff, Int.reduceToNat, fillS, wantG, vBox, Value.cells, one, putAt, Option.getD_some, Option.map_some, Option.bind_some, ne_eq, Option.some.injEq, Prod.mk.injEq, exists_and_left, exists_eq_left', exists_eq_left, List.size_toArray, List.length_cons, List.length_nil, if_true, if_false, exists_eq', exists_const, List.getElem?_cons_zero, List.getElem?_cons_succ, List.map_toArray, List.map_cons, List.map_nil, beq_iff_eq, List.all_cons, List.all_nil, cond_true, List.set_cons_zero, List.set_cons_succ, List.drop_zero, List.drop_succ_cons, List.take_succ_cons, List.take_zero, List.getElem?_toArray, Option.map_none, Option.getD_none, s0, s2]
            refine ⟨?_, ?_, ?_, ?_, 2, rfl, by omega, by omega, rfl, fun q h1 h2 => by omega⟩
            · rw [hx]; congr 1; omega
            · rw [hx]
            · rw [hx]
            · repeat first | assumption | exact EXn.refl _ _ | refine EXn.more ?_ _ | refine EXn.put ?_ (by omega) _ | refine EX.trans ?_ (by assumption)
          · clear s0 s1 s2 s7 s8
            rintro _ S τ ⟨s0, s2, s10, s11, hE, j, s12, hj2, hjL, rfl, hq⟩
            have rb : τ.row b = some ([.slice (some ⟨sid, 0, none⟩) B.2.length kc], boxMeta) := (hE.row b b8).trans b1
            have rs : τ.row sid = some (flat B.2, mm) := (hE.row sid b3).trans b4
            by_cases hlt : j < B.2.length
            · have hd : decide ((j : Int) < (B.2.length : Int)) = true := by simp; omega
              have z2 : (0 : Int) ≤ (j : Int) := by omega
              have z3 : (j : Int) < (B.2.length : Int) := by omega
              have hw : IntKind.i64.wrap ((j : Int) + 1) = ((j + 1 : Nat) : Int) := by rw [wrap64 (by omega) (by omega)]; rfl
              have hc := row_cut (row := flat B.2) (off := 0) (l := B.2) (by rw [List.drop_zero, ← flat_length, List.take_length]) hlt
              rw [Nat.zero_add] at hc
              by_cases hv : vx B.2 j = x
              · have hv' := veq_t hv
                simp only [c_seq, RUNA, Nat.reduceAdd, Nat.reduceMod, Nat.reduceDiv, Nat.reduceSub, Nat.reduceMul, Nat.reduceEqDiff, Nat.reduceBEq, Nat.reduceLeDiff, Int.reduceToNat, fillS, wantG, vBox, Value.cells, one, putAt, Option.getD_some, Option.map_some, Option.bind_some, ne_eq, Option.some.injEq, Prod.mk.injEq, exists_and_left, exists_eq_left', exists_eq_left, List.size_toArray, List.length_cons, List.length_nil, if_true, if_false, exists_eq', exists_const, List.getElem?_cons_zero, List.getElem?_cons_succ, List.map_toArray, List.map_cons, List.map_nil, beq_iff_eq, List.all_cons, List.all_nil, cond_true, List.set_cons_zero, List.set_cons_succ, List.drop_zero, List.drop_succ_cons, List.take_succ_cons, List.take_zero, List.getElem?_toArray, Option.map_none, Option.getD_none, s0, s2, s10, s11, s12, hd, fa78_0, ld23, rb, ln23, ia23 z2 z3, ld40, rs, hc, bd40, eql40, hv', hr]
                have hf : fnd x B.2 = j := fnd_hit hj2 hq hv hlt
                rw [hf, if_pos hlt]
                have e4 : EX σ3 (((τ.more 7).more 12).more 2) := by repeat first | assumption | exact EXn.refl _ _ | refine EXn.more ?_ _ | refine EXn.put ?_ (by omega) _ | refine EX.trans ?_ (by assumption)
                exact ⟨rfl, BL.mono ⟨_, sid, b1, ⟨kc, mm, rfl, b3, b4, b5, b6⟩, b7, b8, b9, b10⟩ e4, e3.thn hn0 e4⟩
              · have hv' := veq_f hv
                simp only [c_seq, RUNA, Nat.reduceAdd, Nat.reduceMod, Nat.reduceDiv, Nat.reduceSub, Nat.reduceMul, Nat.reduceEqDiff, Nat.reduceBEq, Nat.reduceLeDiff, Int.reduceToNat, fillS, wantG, vBox, Value.cells, one, putAt, Option.getD_some, Option.map_some, Option.bind_some, ne_eq, Option.some.injEq, Prod.mk.injEq, exists_and_left, exists_eq_left', exists_eq_left, List.size_toArray, List.length_cons, List.length_nil, if_true, if_false, exists_eq', exists_const, List.getElem?_cons_zero, List.getElem?_cons_succ, List.map_toArray, List.map_cons, List.map_nil, beq_iff_eq, List.all_cons, List.all_nil, cond_true, List.set_cons_zero, List.set_cons_succ, List.drop_zero, List.drop_succ_cons, List.take_succ_cons, List.take_zero, List.getElem?_toArray, Option.map_none, Option.getD_none, s0, s2, s10, s11, s12, hd, fa78_0, ld23, rb, ln23, ia23 z2 z3, ld40, rs, hc, bd40, eql40, hv', hw]
                refine ⟨B.2.length - (j + 1), by omega, ?_, j + 1, rfl, by omega, by omega, rfl, fun q h1 h2 => ?_⟩
                · repeat first | assumption | exact EXn.refl _ _ | refine EXn.more ?_ _ | refine EXn.put ?_ (by omega) _ | refine EX.trans ?_ (by assumption)
                · by_cases e : q = j
                  · rw [e]; exact hv
                  · exact hq q h1 (by omega)
            · have hd : decide ((j : Int) < (B.2.length : Int)) = false := by simp; omega
              have hf : fnd x B.2 = B.2.length := fnd_miss (by omega) (fun q h1 h2 => hq q h1 (by omega))
              simp only [c_seq, RUNA, Nat.reduceAdd, Nat.reduceMod, Nat.reduceDiv, Nat.reduceSub, Nat.reduceMul, Nat.reduceEqDiff, Nat.reduceBEq, Nat.reduceLeDiff, Int.reduceToNat, fillS, wantG, vBox, Value.cells, one, putAt, Option.getD_some, Option.map_some, Option.bind_some, ne_eq, Option.some.injEq, Prod.mk.injEq, exists_and_left, exists_eq_left', exists_eq_left, List.size_toArray, List.length_cons, List.length_nil, if_true, if_false, exists_eq', exists_const, List.getElem?_cons_zero, List.getElem?_cons_succ, List.map_toArray, List.map_cons, List.map_nil, beq_iff_eq, List.all_cons, List.all_nil, cond_true, List.set_cons_zero, List.set_cons_succ, List.drop_zero, List.drop_succ_cons, List.take_succ_cons, List.take_zero, List.getElem?_toArray, Option.map_none, Option.getD_none, s0, s2, s10, s11, s12, hd, fa78_0, ld23, rb, ln23, bd40, bs23_1, hr]
              have hn4 := hE.next
              have v4 : τ.ver (τ.next + 17) = 0 := hE.fr (e3.fr hF) _ (by omega)
              refine app_ex (app_own (id := sid) (n := B.2.length) (cs := flat B.2) (z := 3) (x := 1) (xs := flat [(x.1, x.2.1, x.2.2)]) ?_ Try.underlying23 Try.underlying23 if40 rfl ?_ rfl (by omega) (by omega) rfl (by omega) ?_ ?_ (by omega) (by omega) rfl) ?_
              · refine ⟨kc, mm, rfl, ?_, ?_, b5, b6⟩
                · simp only [next_put, next_more]; omega
                · rw [row_put_ne (by omega)]; exact rs
              · simp only [aSource, row_put, if_true, good_row]; rfl
              · rw [ver_put]; exact v4
              · simp only [next_put, next_more]; omega
              · rintro v σ4 ⟨⟨k4, m4, rfl, o2, o3, o4⟩, hB4⟩
                have n4 := hB4.next
                simp only [next_put, next_more] at n4
                have r4 : σ4.row b = some ([.slice (some ⟨sid, 0, none⟩) B.2.length kc], boxMeta) := by
                  rw [hB4.row _ (by omega) (by omega), row_put_ne (by omega)]; exact rb
                have hsub : IntKind.i64.wrap (((B.2.length + 1 : Nat) : Int) - 1) = (B.2.length : Int) := by rw [wrap64 (by omega) (by omega)]; omega
                simp only [c_seq, RUNA, Nat.reduceAdd, Nat.reduceMod, Nat.reduceDiv, Nat.reduceSub, Nat.reduceMul, Nat.reduceEqDiff, Nat.reduceBEq, Nat.reduceLeDiff, Int.reduceToNat, fillS, wantG, vBox, Value.cells, one, putAt, Option.getD_some, Option.map_some, Option.bind_some, ne_eq, Option.some.injEq, Prod.mk.injEq, exists_and_left, exists_eq_left', exists_eq_left, List.size_toArray, List.length_cons, List.length_nil, if_true, if_false, exists_eq', exists_const, List.getElem?_cons_zero, List.getElem?_cons_succ, List.map_toArray, List.map_cons, List.map_nil, beq_iff_eq, List.all_cons, List.all_nil, cond_true, List.set_cons_zero, List.set_cons_succ, List.drop_zero, List.drop_succ_cons, List.take_succ_cons, List.take_zero, List.getElem?_toArray, Option.map_none, Option.getD_none, s0, fa78_0, st23, ld23, ln23, r4, hsub, hr]
                rw [hf, if_neg (by omega)]
                have e4 : EXn n0 σ (((τ.more 7).more 14).put (τ.next + 16) (AObj.cells (flat [(x.1, x.2.1, x.2.2)]) (rowMeta 3))) := by
                  refine EXn.put ?_ (by omega) _
                  refine EXn.more (EXn.more ?_ _) _
                  exact e3.thn hn0 hE
                refine ⟨rfl, ⟨.slice (some ⟨τ.next + 17, 0, none⟩) (B.2.length + 1) k4, τ.next + 17, ?_, ⟨k4, m4, ?_, ?_, ?_, ?_⟩, b7, ?_, by omega, by omega⟩, ?_⟩
                · simp only [c_seq, RUNA, Nat.reduceAdd, Nat.reduceMod, Nat.reduceDiv, Nat.reduceSub, Nat.reduceMul, Nat.reduceEqDiff, Nat.reduceBEq, Nat.reduceLeDiff, Int.reduceToNat, fillS, wantG, vBox, Value.cells, one, putAt, Option.getD_some, Option.map_some, Option.bind_some, ne_eq, Option.some.injEq, Prod.mk.injEq, exists_and_left, exists_eq_left', exists_eq_left, List.size_toArray, List.length_cons, List.length_nil, if_true, if_false, exists_eq', exists_const, List.getElem?_cons_zero, List.getElem?_cons_succ, List.map_toArray, List.map_cons, List.map_nil, beq_iff_eq, List.all_cons, List.all_nil, cond_true, List.set_cons_zero, List.set_cons_succ, List.drop_zero, List.drop_succ_cons, List.take_succ_cons, List.take_zero, List.getElem?_toArray, Option.map_none, Option.getD_none]
                · rw [List.length_append]; rfl
                · simp only [next_put, next_more]; omega
                · rw [row_more, row_put_ne (by omega), o3, flat_append]
                · have hl1 : (B.2 ++ [x]).length = B.2.length + 1 := by simp
                  rw [flat_append, hl1]; exact o4
                · simp only [next_put, next_more]; omega
                · exact ((e4.trans (hB4.exn (by omega) (by omega))).put (by omega) _).more _

theorem vertex_spec (n0 b : Nat) : ∀ k, k ≤ 10 → VSpec n0 b k := by
  intro k
  induction k with
  | zero => intro _; exact vertex_step n0 b 0 (by omega) (fun k' h => by omega)
  | succ k ih => intro h; exact vertex_step n0 b (k + 1) h (fun k' h' => by rw [show k' = k by omega]; exact ih (by omega))
end Go.Proofs.Ytlealdhgajomhaa
