/- The reference's Evaluate and Table: walks. -/
import Derived.Test.YtlealdhgajomhaaBddI
namespace Go.Proofs.Ytlealdhgajomhaa
set_option linter.unusedVariables false
open Go.AI
set_option linter.unusedSimpArgs false

theorem asl (bs : List Bool) : (fun i => bt bs i) = bt bs := rfl
theorem Rep.node_at {l : List Vtx} {t : Dt} {i : Nat} (h : Rep l t i) (h2 : 2 ≤ i) : ∃ v lo hi, t = .node v lo hi ∧ i < l.length ∧ (vx l i).1 = (v : Int) ∧ Rep l lo (vx l i).2.1 ∧ Rep l hi (vx l i).2.2 := by
  cases t with
  | leaf b => simp only [Rep] at h; split at h <;> omega
  | node v lo hi => obtain ⟨k, h1, _, h3, h4, h5, h6⟩ := h; obtain rfl : i = k := by omega
                    exact ⟨v, lo, hi, rfl, h3, h4, h5, h6⟩
theorem Rep.leaf_at {l : List Vtx} {t : Dt} {i : Nat} (h : Rep l t i) (h2 : i < 2) : t = .leaf (i == 1) := by
  cases t with
  | leaf b => simp only [Rep] at h; cases b <;> simp at h <;> (obtain rfl | rfl : i = 0 ∨ i = 1 := by omega) <;> simp at h ⊢
  | node v lo hi => obtain ⟨k, h1, h3, _⟩ := h; omega

theorem refEval_spec {σ : St} {a b : Value} {T : Dt} {l : List Vtx} {root : Int} {bs : List Bool} (ha : DV σ a (l, root)) (hg : Gd l) (hR : Rep l T root) (hT : T.ok 0) (hb : SB σ b bs) :
    wpc Try.prog 20 #[a, b] σ fun r σ' => r = .bool (T.ev (bt bs)) ∧ EX σ σ' := by
  obtain ⟨oa, ca, rfl, hA⟩ := ha.open
  obtain ⟨ob, cb, rfl, hB⟩ := hb
  simp only at hA
  refine body_go Try.func20 rfl ?_
  have hr := Try.results20
  have hlen := hg.len
  obtain ⟨aid, aoff, arow, am, rfl, a1, a2, a3⟩ := hA (by omega)
  have hlt0 := Rep.lt hg.len hR
  obtain ⟨rt, rfl⟩ : ∃ rt : Nat, root = rt := ⟨_, (Int.toNat_of_nonneg hlt0.1).symm⟩
  simp only [c_seq, RUNA, Nat.reduceAdd, Nat.reduceMod, Nat.reduceDiv, Nat.reduceSub, Nat.reduceMul, Nat.reduceEqDiff, Nat.reduceBEq, Nat.reduceLeDiff, Int.reduceToNat, fillS, wantG, vBox, Value.cells, one, putAt, Option.getD_some, Option.map_some, Option.bind_some, ne_eq, Option.some.injEq, Prod.mk.injEq, exists_and_left, exists_eq_left', exists_eq_left, List.size_toArray, List.length_cons, List.length_nil, if_true, if_false, exists_eq', exists_const, List.getElem?_cons_zero, List.getElem?_cons_succ, List.map_toArray, List.map_cons, List.map_nil, beq_iff_eq, List.all_cons, List.all_nil, cond_true, List.set_cons_zero, List.set_cons_succ, List.drop_zero, List.drop_succ_cons, List.take_succ_cons, List.take_zero, List.getElem?_toArray, Option.map_none, Option.getD_none, TYA, hr]
  refine loop_go (fun m S τ => S.at 1 = .slice ob bs.length cb ∧ S.at 2 = .pointer (some ⟨σ.next, 0, none⟩) ∧ EX σ τ ∧ σ.next < τ.next ∧
    τ.row σ.next = some ([.slice (some ⟨aid, aoff, none⟩) l.length ca, .int .i64 rt], boxMeta) ∧
    S.at 5 = .int .i64 m ∧ ∃ U, Rep l U m ∧ U.ok 0 ∧ U.ev (bt bs) = T.ev (bt bs)) rt ?_ ?_
  · simp only [c_seq, RUNA, Nat.reduceAdd, Nat.reduceMod, Nat.reduceDiv, Nat.reduceSub, Nat.reduceMul, Nat.reduceEqDiff, Nat.reduceBEq, Nat.reduceLeDiff, Int.reduceToNat, fillS, wantG, vBox, Value.cells, one, putAt, Option.getD_some, Option.map_some, Option.bind_some, ne_eq, Option.some.injEq, Prod.mk.injEq, exists_and_left, exists_eq_left', exists_eq_left, List.size_toArray, List.length_cons, List.length_nil, if_true, if_false, exists_eq', exists_const, List.getElem?_cons_zero, List.getElem?_cons_succ, List.map_toArray, List.map_cons, List.map_nil, beq_iff_eq, List.all_cons, List.all_nil, cond_true, List.set_cons_zero, List.set_cons_succ, List.drop_zero, List.drop_succ_cons, List.take_succ_cons, List.take_zero, List.getElem?_toArray, Option.map_none, Option.getD_none]
    refine ⟨?_, by omega, T, hR, hT, rfl⟩
    repeat first | assumption | exact EXn.refl _ _ | refine EXn.more ?_ _ | refine EXn.put ?_ (by omega) _ | refine EX.trans ?_ (by assumption)
  · rintro i S τ ⟨s1, s2, hE, hx, r0, s5, U, hU, hUo, hUe⟩
    have hil := Rep.lt hg.len hU
    by_cases hlt : 2 ≤ i
    · obtain ⟨v, lo, hi, rfl, h3, h4, h5, h6⟩ := hU.node_at hlt
      have hd1 : decide ((1 : Int) < (i : Int)) = true := by simp; omega
      have hd2 : decide ((i : Int) < (l.length : Int)) = true := by simp; omega
      have i0 : (0 : Int) ≤ (i : Int) := by omega
      have i1 : (i : Int) < (l.length : Int) := by omega
      have ra := (hE.row aid a1).trans a2
      have ca' := row_cut a3 h3
      have n1 : ¬ aid = τ.next + 9 + 5 := by have := hE.next; omega
      have n2 : ¬ σ.next = τ.next + (9 + 5) := by omega
      have hlo := hg.lo i hlt h3
      have hhi := hg.hi i hlt h3
      have hvv := hg.var i hlt h3
      have hd3 : decide (0 ≤ (vx l i).1) = true := by simp; omega
      by_cases hvl : v < bs.length
      · have hd4 : decide ((vx l i).1 < (bs.length : Int)) = true := by simp; omega
        obtain ⟨bid, boff, brow, bm, rfl, b1, b2, b3⟩ := hB (by omega)
        have rb := (hE.row bid b1).trans b2
        have n3 : ¬ bid = τ.next + 9 + 5 := by have := hE.next; omega
        have v0 : (0 : Int) ≤ (vx l i).1 := by omega
        have v1 : (vx l i).1 < (bs.length : Int) := by omega
        have tv : brow[boff + (vx l i).1.toNat]? = some (.bool (bt bs v)) := by rw [h4, Int.toNat_natCast]; exact tb_at b3 hvl
        have hn := hE.next
        have n4 : ¬ bid = τ.next + 14 := by omega
        have n5 : ¬ aid = τ.next + 14 := by omega
        have n6 : ¬ σ.next = τ.next + 14 := by omega
        cases hbv : bt bs v with
        | true =>
          rw [hbv] at tv
          have hd5 : decide ((i : Int) ≤ (vx l i).2.2) = false := by simp; omega
          simp only [c_seq, RUNA, Nat.reduceAdd, Nat.reduceMod, Nat.reduceDiv, Nat.reduceSub, Nat.reduceMul, Nat.reduceEqDiff, Nat.reduceBEq, Nat.reduceLeDiff, Int.reduceToNat, fillS, wantG, vBox, Value.cells, one, putAt, Option.getD_some, Option.map_some, Option.bind_some, ne_eq, Option.some.injEq, Prod.mk.injEq, exists_and_left, exists_eq_left', exists_eq_left, List.size_toArray, List.length_cons, List.length_nil, if_true, if_false, exists_eq', exists_const, List.getElem?_cons_zero, List.getElem?_cons_succ, List.map_toArray, List.map_cons, List.map_nil, beq_iff_eq, List.all_cons, List.all_nil, cond_true, List.set_cons_zero, List.set_cons_succ, List.drop_zero, List.drop_succ_cons, List.take_succ_cons, List.take_zero, List.getElem?_toArray, Option.map_none, Option.getD_none, TYA, s1, s2, s5, r0, hd1, hd2, hd3, hd4, ia23 i0 i1, ia43 v0 v1, ra, ca', n1, n2, n3, n4, n5, n6, rb, tv, hd5]
          refine ⟨(vx l i).2.2.toNat, by omega, ?_, by omega, ?_, hi, ?_, Dt.ok_mono hUo.2.2.2.2 (by omega), ?_⟩
          · repeat first | assumption | exact EXn.refl _ _ | refine EXn.more ?_ _ | refine EXn.put ?_ (by omega) _ | refine EX.trans ?_ (by assumption)
          · rw [Int.toNat_of_nonneg hhi.1]
          · rw [Int.toNat_of_nonneg hhi.1]; exact h6
          · rw [← hUe]; simp only [Dt.ev, hbv, if_true]
        | false =>
          rw [hbv] at tv
          have hd5 : decide ((i : Int) ≤ (vx l i).2.1) = false := by simp; omega
          simp only [c_seq, RUNA, Nat.reduceAdd, Nat.reduceMod, Nat.reduceDiv, Nat.reduceSub, Nat.reduceMul, Nat.reduceEqDiff, Nat.reduceBEq, Nat.reduceLeDiff, Int.reduceToNat, fillS, wantG, vBox, Value.cells, one, putAt, Option.getD_some, Option.map_some, Option.bind_some, ne_eq, Option.some.injEq, Prod.mk.injEq, exists_and_left, exists_eq_left', exists_eq_left, List.size_toArray, List.length_cons, List.length_nil, if_true, if_false, exists_eq', exists_const, List.getElem?_cons_zero, List.getElem?_cons_succ, List.map_toArray, List.map_cons, List.map_nil, beq_iff_eq, List.all_cons, List.all_nil, cond_true, List.set_cons_zero, List.set_cons_succ, List.drop_zero, List.drop_succ_cons, List.take_succ_cons, List.take_zero, List.getElem?_toArray, Option.map_none, Option.getD_none, TYA, s1, s2, s5, r0, hd1, hd2, hd3, hd4, ia23 i0 i1, ia43 v0 v1, ra, ca', n1, n2, n3, n4, n5, n6, rb, tv, hd5]
          refine ⟨(vx l i).2.1.toNat, by omega, ?_, by omega, ?_, lo, ?_, Dt.ok_mono hUo.2.2.2.1 (by omega), ?_⟩
          · repeat first | assumption | exact EXn.refl _ _ | refine EXn.more ?_ _ | refine EXn.put ?_ (by omega) _ | refine EX.trans ?_ (by assumption)
          · rw [Int.toNat_of_nonneg hlo.1]
          · rw [Int.toNat_of_nonneg hlo.1]; exact h5
          · rw [← hUe]; simp only [Dt.ev, hbv, Bool.false_eq_true, if_false]
      · have hd4 : decide ((vx l i).1 < (bs.length : Int)) = false := by simp; omega
        have hbv : bt bs v = false := by unfold bt; rw [List.getD_eq_getElem?_getD, List.getElem?_eq_none (by omega)]; rfl
        have hn := hE.next
        have n5 : ¬ aid = τ.next + 14 := by omega
        have n6 : ¬ σ.next = τ.next + 14 := by omega
        have hd5 : decide ((i : Int) ≤ (vx l i).2.1) = false := by simp; omega
        simp only [c_seq, RUNA, Nat.reduceAdd, Nat.reduceMod, Nat.reduceDiv, Nat.reduceSub, Nat.reduceMul, Nat.reduceEqDiff, Nat.reduceBEq, Nat.reduceLeDiff, Int.reduceToNat, fillS, wantG, vBox, Value.cells, one, putAt, Option.getD_some, Option.map_some, Option.bind_some, ne_eq, Option.some.injEq, Prod.mk.injEq, exists_and_left, exists_eq_left', exists_eq_left, List.size_toArray, List.length_cons, List.length_nil, if_true, if_false, exists_eq', exists_const, List.getElem?_cons_zero, List.getElem?_cons_succ, List.map_toArray, List.map_cons, List.map_nil, beq_iff_eq, List.all_cons, List.all_nil, cond_true, List.set_cons_zero, List.set_cons_succ, List.drop_zero, List.drop_succ_cons, List.take_succ_cons, List.take_zero, List.getElem?_toArray, Option.map_none, Option.getD_none, TYA, s1, s2, s5, r0, hd1, hd2, hd3, hd4, ia23 i0 i1, ra, ca', n1, n2, n5, n6, hd5]
        refine ⟨(vx l i).2.1.toNat, by omega, ?_, by omega, ?_, lo, ?_, Dt.ok_mono hUo.2.2.2.1 (by omega), ?_⟩
        · repeat first | assumption | exact EXn.refl _ _ | refine EXn.more ?_ _ | refine EXn.put ?_ (by omega) _ | refine EX.trans ?_ (by assumption)
        · rw [Int.toNat_of_nonneg hlo.1]
        · rw [Int.toNat_of_nonneg hlo.1]; exact h5
        · rw [← hUe]; simp only [Dt.ev, hbv, Bool.false_eq_true, if_false]
    · have hd1 : decide ((1 : Int) < (i : Int)) = false := by simp; omega
      have hle := hU.leaf_at (by omega)
      subst hle
      simp only [c_seq, RUNA, Nat.reduceAdd, Nat.reduceMod, Nat.reduceDiv, Nat.reduceSub, Nat.reduceMul, Nat.reduceEqDiff, Nat.reduceBEq, Nat.reduceLeDiff, Int.reduceToNat, fillS, wantG, vBox, Value.cells, one, putAt, Option.getD_some, Option.map_some, Option.bind_some, ne_eq, Option.some.injEq, Prod.mk.injEq, exists_and_left, exists_eq_left', exists_eq_left, List.size_toArray, List.length_cons, List.length_nil, if_true, if_false, exists_eq', exists_const, List.getElem?_cons_zero, List.getElem?_cons_succ, List.map_toArray, List.map_cons, List.map_nil, beq_iff_eq, List.all_cons, List.all_nil, cond_true, List.set_cons_zero, List.set_cons_succ, List.drop_zero, List.drop_succ_cons, List.take_succ_cons, List.take_zero, List.getElem?_toArray, Option.map_none, Option.getD_none, TYA, s1, s2, s5, r0, hd1, hr]
      refine ⟨?_, ?_⟩
      · rw [← hUe]; simp only [Dt.ev]
        obtain rfl | rfl : i = 0 ∨ i = 1 := by omega
        · rfl
        · rfl
      · repeat first | assumption | exact EXn.refl _ _ | refine EXn.more ?_ _ | refine EXn.put ?_ (by omega) _ | refine EX.trans ?_ (by assumption)

/-! ### diagrams by what they mean -/
def IsD (lo hi : Nat) (σ : St) (v : Value) (φ : As → Bool) : Prop := ∃ T : Dt, DVi lo hi σ v (cd T) ∧ T.ok 0 ∧ ∀ f, T.ev f = φ f
theorem IsD.un {lo hi : Nat} {σ τ : St} {v : Value} {φ : As → Bool} (h : IsD lo hi σ v φ) (e : UN lo hi σ τ) : IsD lo hi τ v φ := by
  obtain ⟨T, h1, h2⟩ := h; exact ⟨T, h1.un e, h2⟩
theorem DVi.weak {lo lo' hi : Nat} {σ : St} {v : Value} {d : List Vtx × Int} (h : DVi lo hi σ v d) (hl : lo' ≤ lo) : DVi lo' hi σ v d := by
  obtain ⟨s, h1, h2⟩ := h
  refine ⟨s, h1, h2.imp (fun h => ?_) id⟩
  obtain ⟨id, off, c, row, m, h1, h2, h3, h4⟩ := h
  exact ⟨id, off, c, row, m, h1, by omega, h3, h4⟩
theorem IsD.weak {lo lo' hi : Nat} {σ : St} {v : Value} {φ : As → Bool} (h : IsD lo hi σ v φ) (hl : lo' ≤ lo) : IsD lo' hi σ v φ := by
  obtain ⟨T, h1, h2⟩ := h; exact ⟨T, h1.weak hl, h2⟩
theorem cd_gd {T : Dt} (h : T.ok 0) : Gd (cd T).1 ∧ Rep (cd T).1 T (cd T).2 := by
  obtain ⟨g1, r1, _⟩ := num_ok T c01 0 gd01 h; exact ⟨g1, r1⟩
theorem IsD.congr {lo hi : Nat} {σ : St} {v : Value} {φ ψ : As → Bool} (h : IsD lo hi σ v φ) (e : ∀ f, φ f = ψ f) : IsD lo hi σ v ψ := by
  obtain ⟨T, h1, h2, h3⟩ := h; exact ⟨T, h1, h2, fun f => (h3 f).trans (e f)⟩
theorem ev10 {T : Dt} (h : T.ok 0) (f g : As) (e : ∀ i, i < 10 → f i = g i) : T.ev f = T.ev g := Dt.ev_congr h (fun i _ hi => e i hi)

theorem Table_spec {σ : St} {a : Value} {T : Dt} {lo hi : Nat} (ha : DVi lo hi σ a (cd T)) (hhi : hi ≤ σ.next) (hT : T.ok 0) :
    wpc Try.prog 54 #[a] σ fun r σ' => TBo σ.next σ'.next σ' r 1024 (fun n => T.ev (bits n)) ∧ EX σ σ' := by
  obtain ⟨hg, hR⟩ := cd_gd hT
  obtain ⟨oa, ca, rfl, -⟩ := (ha.dv hhi).open
  refine body_go Try.func54 rfl ?_
  have hr := Try.results54
  have hmk := mkB 1024 (fun n => T.ev (bits n)) (by omega)
  rw [show (((1024 : Nat) : Int)) = 1024 from rfl] at hmk
  simp only [c_seq, RUNA, Nat.reduceAdd, Nat.reduceMod, Nat.reduceDiv, Nat.reduceSub, Nat.reduceMul, Nat.reduceEqDiff, Nat.reduceBEq, Nat.reduceLeDiff, Int.reduceToNat, fillS, wantG, vBox, Value.cells, one, putAt, Option.getD_some, Option.map_some, Option.bind_some, ne_eq, Option.some.injEq, Prod.mk.injEq, exists_and_left, exists_eq_left', exists_eq_left, List.size_toArray, List.length_cons, List.length_nil, if_true, if_false, exists_eq', exists_const, List.getElem?_cons_zero, List.getElem?_cons_succ, List.map_toArray, List.map_cons, List.map_nil, beq_iff_eq, List.all_cons, List.all_nil, cond_true, List.set_cons_zero, List.set_cons_succ, List.drop_zero, List.drop_succ_cons, List.take_succ_cons, List.take_zero, List.getElem?_toArray, Option.map_none, Option.getD_none, TYA, hr, hmk]
  refine loop_go (fun m S τ => S.at 1 = .pointer (some ⟨σ.next, 0, none⟩) ∧ S.at 3 = .slice (some ⟨σ.next + 2, 0, none⟩) 1024 1024 ∧ EX σ τ ∧ σ.next + 2 < τ.next ∧
    τ.row σ.next = some ([.slice oa (cd T).1.length ca, .int .i64 (cd T).2], boxMeta) ∧
    ∃ n : Nat, S.at 4 = .int .i64 n ∧ n ≤ 1024 ∧ m = 1024 - n ∧ τ.row (σ.next + 2) = some ((tab 1024 (half n (fun n => T.ev (bits n)) fun _ => false)).map Value.bool, rowMeta 1)) 1024 ?_ ?_
  · simp only [c_seq, RUNA, Nat.reduceAdd, Nat.reduceMod, Nat.reduceDiv, Nat.reduceSub, Nat.reduceMul, Nat.reduceEqDiff, Nat.reduceBEq, Nat.reduceLeDiff, Int.reduceToNat, fillS, wantG, vBox, Value.cells, one, putAt, Option.getD_some, Option.map_some, Option.bind_some, ne_eq, Option.some.injEq, Prod.mk.injEq, exists_and_left, exists_eq_left', exists_eq_left, List.size_toArray, List.length_cons, List.length_nil, if_true, if_false, exists_eq', exists_const, List.getElem?_cons_zero, List.getElem?_cons_succ, List.map_toArray, List.map_cons, List.map_nil, beq_iff_eq, List.all_cons, List.all_nil, cond_true, List.set_cons_zero, List.set_cons_succ, List.drop_zero, List.drop_succ_cons, List.take_succ_cons, List.take_zero, List.getElem?_toArray, Option.map_none, Option.getD_none]
    refine ⟨?_, by omega, 0, rfl, by omega, by omega, rfl⟩
    repeat first | assumption | exact EXn.refl _ _ | refine EXn.more ?_ _ | refine EXn.put ?_ (by omega) _ | refine EX.trans ?_ (by assumption)
  · rintro _ S τ ⟨s1, s3, hE, hx, r0, n, s4, hn, rfl, rt⟩
    have hnn := hE.next
    by_cases hlt : n < 1024
    · have hd : decide ((n : Int) < ((1024 : Nat) : Int)) = true := by simp; omega
      have z2 : (0 : Int) ≤ (n : Int) := by omega
      have z3 : (n : Int) < ((1024 : Nat) : Int) := by omega
      have hw : IntKind.i64.wrap ((n : Int) + 1) = ((n + 1 : Nat) : Int) := by rw [wrap64 (by omega) (by omega)]; rfl
      simp only [c_seq, RUNA, Nat.reduceAdd, Nat.reduceMod, Nat.reduceDiv, Nat.reduceSub, Nat.reduceMul, Nat.reduceEqDiff, Nat.reduceBEq, Nat.reduceLeDiff, Int.reduceToNat, fillS, wantG, vBox, Value.cells, one, putAt, Option.getD_some, Option.map_some, Option.bind_some, ne_eq, Option.some.injEq, Prod.mk.injEq, exists_and_left, exists_eq_left', exists_eq_left, List.size_toArray, List.length_cons, List.length_nil, if_true, if_false, exists_eq', exists_const, List.getElem?_cons_zero, List.getElem?_cons_succ, List.map_toArray, List.map_cons, List.map_nil, beq_iff_eq, List.all_cons, List.all_nil, cond_true, List.set_cons_zero, List.set_cons_succ, List.drop_zero, List.drop_succ_cons, List.take_succ_cons, List.take_zero, List.getElem?_toArray, Option.map_none, Option.getD_none, TYA, s1, s3, s4, hd]
      refine d_go (ms := [0, 0, 0, 0, 8, 28, 63, 127]) (order := [0, 1, 2, 3, 4, 5, 6, 7]) (by kernel_rfl) (by kernel_rfl) (by kernel_rfl) ?_
      simp only [YRUNA, Nat.reduceShiftRight, bit, List.filterMap_cons, List.filterMap_nil, List.filter_cons, List.filter_nil, List.forall_mem_cons, List.not_mem_nil, implies_true, List.getD_cons_zero, List.getD_cons_succ, eq_self, c_seq, RUNA, Nat.reduceAdd, Nat.reduceMod, Nat.reduceDiv, Nat.reduceSub, Nat.reduceMul, Nat.reduceEqDiff, Nat.reduceBEq, Nat.reduceLeDiff, Int.reduceToNat, fillS, wantG, vBox, Value.cells, one, putAt, Option.getD_some, Option.map_some, Option.bind_some, ne_eq, Option.some.injEq, Prod.mk.injEq, exists_and_left, exists_eq_left', exists_eq_left, List.size_toArray, List.length_cons, List.length_nil, if_true, if_false, exists_eq', exists_const, List.getElem?_cons_zero, List.getElem?_cons_succ, List.map_toArray, List.map_cons, List.map_nil, beq_iff_eq, List.all_cons, List.all_nil, cond_true, List.set_cons_zero, List.set_cons_succ, List.drop_zero, List.drop_succ_cons, List.take_succ_cons, List.take_zero, List.getElem?_toArray, Option.map_none, Option.getD_none, TYA, s1, s3, s4, r0]
      refine wpc_mono (Bits_spec n (by omega) _) ?_
      rintro r σ2 ⟨hb, hE2⟩
      have n2 := hE2.next
      simp only [next_more] at n2 hb
      have r2 : σ2.row σ.next = some ([.slice oa (cd T).1.length ca, .int .i64 (cd T).2], boxMeta) := (hE2.row _ (by first | omega | (simp only [next_more, next_put] at *; omega))).trans r0
      obtain ⟨bid, rfl, hb1, hb2, hb3⟩ := id hb
      simp only [YRUNA, Nat.reduceShiftRight, bit, List.filterMap_cons, List.filterMap_nil, List.filter_cons, List.filter_nil, List.forall_mem_cons, List.not_mem_nil, implies_true, List.getD_cons_zero, List.getD_cons_succ, eq_self, c_seq, RUNA, Nat.reduceAdd, Nat.reduceMod, Nat.reduceDiv, Nat.reduceSub, Nat.reduceMul, Nat.reduceEqDiff, Nat.reduceBEq, Nat.reduceLeDiff, Int.reduceToNat, fillS, wantG, vBox, Value.cells, one, putAt, Option.getD_some, Option.map_some, Option.bind_some, ne_eq, Option.some.injEq, Prod.mk.injEq, exists_and_left, exists_eq_left', exists_eq_left, List.size_toArray, List.length_cons, List.length_nil, if_true, if_false, exists_eq', exists_const, List.getElem?_cons_zero, List.getElem?_cons_succ, List.map_toArray, List.map_cons, List.map_nil, beq_iff_eq, List.all_cons, List.all_nil, cond_true, List.set_cons_zero, List.set_cons_succ, List.drop_zero, List.drop_succ_cons, List.take_succ_cons, List.take_zero, List.getElem?_toArray, Option.map_none, Option.getD_none, TYA, s1, s3, s4, r0, r2]
      have hd2 : DV σ2 (Value.agg #[Value.slice oa (cd T).1.length ca, Value.int IntKind.i64 (cd T).2]) (cd T) := ((ha.dv hhi).mono hE).mono (EX.trans ((EXn.refl _ τ).more 4 |>.more 8) hE2)
      refine wpc_mono (refEval_spec (T := T) (bs := tab 10 (bits n)) hd2 hg hR hT (hb.sb (by omega))) ?_
      rintro r σ3 ⟨rfl, hE3⟩
      have n3 := hE3.next
      have hev : T.ev (bt (tab 10 (bits n))) = T.ev (bits n) := ev10 hT _ _ fun i hi => bt_tab hi
      have r3 : σ3.row σ.next = some ([.slice oa (cd T).1.length ca, .int .i64 (cd T).2], boxMeta) := (hE3.row _ (by omega)).trans r2
      have rt3 : σ3.row (σ.next + 2) = some ((tab 1024 (half n (fun n => T.ev (bits n)) fun _ => false)).map Value.bool, rowMeta 1) :=
        (hE3.row _ (by omega)).trans ((hE2.row _ (by first | omega | (simp only [next_more, next_put] at *; omega))).trans rt)
      have hle : n + 1 ≤ ((tab 1024 (half n (fun n => T.ev (bits n)) fun _ => false)).map Value.bool).length := by rw [List.length_map, tab_len]; omega
      simp only [YRUNA, Nat.reduceShiftRight, bit, List.filterMap_cons, List.filterMap_nil, List.filter_cons, List.filter_nil, List.forall_mem_cons, List.not_mem_nil, implies_true, List.getD_cons_zero, List.getD_cons_succ, eq_self, c_seq, RUNA, Nat.reduceAdd, Nat.reduceMod, Nat.reduceDiv, Nat.reduceSub, Nat.reduceMul, Nat.reduceEqDiff, Nat.reduceBEq, Nat.reduceLeDiff, Int.reduceToNat, fillS, wantG, vBox, Value.cells, one, putAt, Option.getD_some, Option.map_some, Option.bind_some, ne_eq, Option.some.injEq, Prod.mk.injEq, exists_and_left, exists_eq_left', exists_eq_left, List.size_toArray, List.length_cons, List.length_nil, if_true, if_false, exists_eq', exists_const, List.getElem?_cons_zero, List.getElem?_cons_succ, List.map_toArray, List.map_cons, List.map_nil, beq_iff_eq, List.all_cons, List.all_nil, cond_true, List.set_cons_zero, List.set_cons_succ, List.drop_zero, List.drop_succ_cons, List.take_succ_cons, List.take_zero, List.getElem?_toArray, Option.map_none, Option.getD_none, TYA, s1, s3, s4, r3, rt3, ia43 z2 z3, hle, hw, hev]
      refine ⟨1024 - (n + 1), by omega, ?_, by omega, n + 1, rfl, by omega, rfl, ?_⟩
      · refine EXn.more (EXn.put ?_ (by omega) _) _
        exact EX.trans (EX.trans hE (EX.trans (((EX.refl τ).more 4).more 8) hE2)) hE3
      · rw [← half_set, List.map_set]
    · have hd : decide ((n : Int) < ((1024 : Nat) : Int)) = false := by simp; omega
      have hn1 : n = 1024 := by omega
      rw [hn1, half_N] at rt
      simp only [c_seq, RUNA, Nat.reduceAdd, Nat.reduceMod, Nat.reduceDiv, Nat.reduceSub, Nat.reduceMul, Nat.reduceEqDiff, Nat.reduceBEq, Nat.reduceLeDiff, Int.reduceToNat, fillS, wantG, vBox, Value.cells, one, putAt, Option.getD_some, Option.map_some, Option.bind_some, ne_eq, Option.some.injEq, Prod.mk.injEq, exists_and_left, exists_eq_left', exists_eq_left, List.size_toArray, List.length_cons, List.length_nil, if_true, if_false, exists_eq', exists_const, List.getElem?_cons_zero, List.getElem?_cons_succ, List.map_toArray, List.map_cons, List.map_nil, beq_iff_eq, List.all_cons, List.all_nil, cond_true, List.set_cons_zero, List.set_cons_succ, List.drop_zero, List.drop_succ_cons, List.take_succ_cons, List.take_zero, List.getElem?_toArray, Option.map_none, Option.getD_none, TYA, s1, s3, s4, hd, hr]
      refine ⟨⟨σ.next + 2, rfl, by omega, by omega, rt⟩, ?_⟩
      repeat first | assumption | exact EXn.refl _ _ | refine EXn.more ?_ _ | refine EXn.put ?_ (by omega) _ | refine EX.trans ?_ (by assumption)
end Go.Proofs.Ytlealdhgajomhaa
