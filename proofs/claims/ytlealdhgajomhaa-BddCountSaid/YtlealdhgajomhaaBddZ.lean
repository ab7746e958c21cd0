/- bdd.level, bdd.below, and frames but for some ids. -/
import Derived.Test.YtlealdhgajomhaaBddR
namespace Go.Proofs.Ytlealdhgajomhaa
set_option linter.unusedVariables false
open Go.AI
set_option linter.unusedSimpArgs false

/-- what was there is there still, but for the ids of a set -/
structure EXF (X : Nat → Prop) (σ σ' : St) : Prop where
  next : σ.next ≤ σ'.next
  get : ∀ id, id < σ.next → ¬ X id → σ'.get id = σ.get id
  row : ∀ id, id < σ.next → ¬ X id → σ'.row id = σ.row id
  fr : Fr σ → Fr σ'
  ver : ∀ g, g < σ.next → σ'.ver g = σ.ver g
theorem EXF.refl (X : Nat → Prop) (σ : St) : EXF X σ σ := ⟨Nat.le_refl _, fun _ _ _ => rfl, fun _ _ _ => rfl, id, fun _ _ => rfl⟩
theorem EXF.of {X : Nat → Prop} {σ σ' : St} (h : EX σ σ') : EXF X σ σ' := ⟨h.next, fun id hi _ => h.get id hi, fun id hi _ => h.row id hi, h.fr, h.ver⟩
theorem EXF.comp {X Y : Nat → Prop} {σ τ υ : St} (h : EXF X σ τ) (hs : ∀ id, id < σ.next → Y id → X id) (k : EXF Y τ υ) : EXF X σ υ :=
  ⟨Nat.le_trans h.next k.next, fun id hi hb => (k.get id (by have := h.next; omega) (fun y => hb (hs id hi y))).trans (h.get id hi hb), fun id hi hb => (k.row id (by have := h.next; omega) (fun y => hb (hs id hi y))).trans (h.row id hi hb), fun f => k.fr (h.fr f), fun g hg => (k.ver g (by have := h.next; omega)).trans (h.ver g hg)⟩
theorem EXF.more {X : Nat → Prop} {σ τ : St} (h : EXF X σ τ) (k : Nat) : EXF X σ (τ.more k) := h.comp (fun _ _ y => y) (.of ((EX.refl τ).more k))
theorem EXF.thn {X : Nat → Prop} {σ τ υ : St} (h : EXF X σ τ) (k : EX τ υ) : EXF X σ υ := h.comp (Y := fun _ => False) (fun _ _ y => y.elim) (.of k)
theorem EXF.put {X : Nat → Prop} {σ τ : St} (h : EXF X σ τ) {k : Nat} (hk : σ.next ≤ k ∨ X k) (ob : AObj) : EXF X σ (τ.put k ob) := by
  have ne : ∀ id, id < σ.next → ¬ X id → id ≠ k := by
    intro id hi hx e; subst e
    rcases hk with hk | hk
    · omega
    · exact hx hk
  refine ⟨h.next, fun id hi hb => ?_, fun id hi hb => ?_, fun f => (h.fr f), h.ver⟩
  · rw [St.get_put, if_neg (ne id hi hb)]; exact h.get id hi hb
  · rw [row_put_ne (ne id hi hb)]; exact h.row id hi hb

/-! ### level and below: plain -/
def blw (l : List Vtx) (i v : Nat) (h : Bool) : Int := if lvl l i = v then (if h = true then (vx l i).2.2 else (vx l i).2.1) else (i : Int)
theorem blw_rep {l : List Vtx} (g : Gd l) {A : Dt} {i v : Nat} (hA : Rep l A i) (hi : i < l.length) (hv : v ≤ lvl l i) (hv10 : v < 10) (h : Bool) :
    ∃ A' : Dt, Rep l A' (blw l i v h) ∧ A'.ok (v + 1) ∧ ∀ f, A'.ev f = A.ev (upd f v h) := by
  obtain ⟨B, hB, ho⟩ := Rep.ex g i hi
  have := Rep.fn hB hA
  subst this
  unfold blw
  by_cases e : lvl l i = v
  · rw [if_pos e]
    have h2 : 2 ≤ i := by
      by_cases q : i < 2
      · simp only [lvl, q, if_true] at e; omega
      · omega
    obtain ⟨w, lo, hi', rfl, _, h4, h5, h6⟩ := hA.node_at h2
    have hw : w = v := by
      have : lvl l i = (vx l i).1.toNat := by simp only [lvl]; rw [if_neg (by omega)]
      omega
    subst hw
    cases h with
    | true => exact ⟨hi', h6, ho.2.2.2.2, fun f => by simp only [Dt.ev, upd_self, if_true]; rw [Dt.ev_upd ho.2.2.2.2 (by omega)]⟩
    | false => exact ⟨lo, h5, ho.2.2.2.1, fun f => by simp only [Dt.ev, upd_self, Bool.false_eq_true, if_false]; rw [Dt.ev_upd ho.2.2.2.1 (by omega)]⟩
  · rw [if_neg e]
    exact ⟨B, hA, Dt.ok_mono ho (by omega), fun f => (Dt.ev_upd ho (by omega)).symm⟩
theorem lvl_le {l : List Vtx} (g : Gd l) {i : Nat} (hi : i < l.length) : lvl l i ≤ 10 := by
  unfold lvl
  split
  · omega
  · have := g.var i (by omega) hi; omega

/-! ### level and below: walks -/
theorem level_spec {σ : St} {a : Value} {l : List Vtx} {root : Int} {i : Nat} (ha : DV σ a (l, root)) (g : Gd l) (hi : i < l.length) : wpc Try.prog 57 #[a, .int .i64 i] σ fun r σ' => r = .int .i64 (lvl l i : Nat) ∧ EX σ σ' := by
  obtain ⟨oa, ca, rfl, hA⟩ := ha.open
  simp only at hA
  refine body_go Try.func57 rfl ?_
  have hr := Try.results57
  by_cases h2 : i < 2
  · have hd : decide ((i : Int) < 2) = true := by simp; omega
    simp only [c_seq, RUNA, Nat.reduceAdd, Nat.reduceMod, Nat.reduceDiv, Nat.reduceSub, Nat.reduceMul, Nat.reduceEqDiff, Nat.reduceBEq, Nat.reduceLeDiff, Int.reduceToNat, fillS, wantG, vBox, Value.cells, one, putAt, Option.getD_some, Option.map_some, Option.bind_some, ne_eq, Option.some.injEq, Prod.mk.injEq, exists_and_left, exists_eq_left', exists_eq_left, List.size_toArray, List.length_cons, List.length_nil, if_true, if_false, exists_eq', exists_const, List.getElem?_cons_zero, List.getElem?_cons_succ, List.map_toArray, List.map_cons, List.map_nil, beq_iff_eq, List.all_cons, List.all_nil, cond_true, List.set_cons_zero, List.set_cons_succ, List.drop_zero, List.drop_succ_cons, List.take_succ_cons, List.take_zero, List.getElem?_toArray, Option.map_none, Option.getD_none, TYA, hr, hd]
    refine ⟨?_, ?_⟩
    · simp only [lvl, h2, if_true]; rfl
    · repeat first | assumption | exact EXn.refl _ _ | refine EXn.more ?_ _ | refine EXn.put ?_ (by omega) _ | refine EX.trans ?_ (by assumption)
  · have hd : decide ((i : Int) < 2) = false := by simp; omega
    obtain ⟨aid, aoff, arow, am, rfl, a1, a2, a3⟩ := hA (by omega)
    have z0 : (0 : Int) ≤ (i : Int) := by omega
    have z1 : (i : Int) < (l.length : Int) := by omega
    have f0 := flat_at0 a3 hi
    have na : ¬ aid = σ.next := by omega
    have hv := g.var i (by omega) hi
    simp only [c_seq, RUNA, Nat.reduceAdd, Nat.reduceMod, Nat.reduceDiv, Nat.reduceSub, Nat.reduceMul, Nat.reduceEqDiff, Nat.reduceBEq, Nat.reduceLeDiff, Int.reduceToNat, fillS, wantG, vBox, Value.cells, one, putAt, Option.getD_some, Option.map_some, Option.bind_some, ne_eq, Option.some.injEq, Prod.mk.injEq, exists_and_left, exists_eq_left', exists_eq_left, List.size_toArray, List.length_cons, List.length_nil, if_true, if_false, exists_eq', exists_const, List.getElem?_cons_zero, List.getElem?_cons_succ, List.map_toArray, List.map_cons, List.map_nil, beq_iff_eq, List.all_cons, List.all_nil, cond_true, List.set_cons_zero, List.set_cons_succ, List.drop_zero, List.drop_succ_cons, List.take_succ_cons, List.take_zero, List.getElem?_toArray, Option.map_none, Option.getD_none, TYA, hr, hd, ia23 z0 z1, a2, f0, na]
    refine ⟨?_, ?_⟩
    · simp only [lvl, h2, if_false]; rw [Int.toNat_of_nonneg hv.1]
    · repeat first | assumption | exact EXn.refl _ _ | refine EXn.more ?_ _ | refine EXn.put ?_ (by omega) _ | refine EX.trans ?_ (by assumption)
theorem below_spec {σ : St} {a : Value} {l : List Vtx} {root : Int} {i v : Nat} {h : Bool} (ha : DV σ a (l, root)) (g : Gd l) (hi : i < l.length) : wpc Try.prog 61 #[a, .int .i64 i, .int .i64 v, .bool h] σ fun r σ' => r = .int .i64 (blw l i v h) ∧ EX σ σ' := by
  obtain ⟨oa, ca, rfl, hA⟩ := ha.open
  simp only at hA
  refine body_go Try.func61 rfl ?_
  have hr := Try.results61
  simp only [c_seq, RUNA, Nat.reduceAdd, Nat.reduceMod, Nat.reduceDiv, Nat.reduceSub, Nat.reduceMul, Nat.reduceEqDiff, Nat.reduceBEq, Nat.reduceLeDiff, Int.reduceToNat, fillS, wantG, vBox, Value.cells, one, putAt, Option.getD_some, Option.map_some, Option.bind_some, ne_eq, Option.some.injEq, Prod.mk.injEq, exists_and_left, exists_eq_left', exists_eq_left, List.size_toArray, List.length_cons, List.length_nil, if_true, if_false, exists_eq', exists_const, List.getElem?_cons_zero, List.getElem?_cons_succ, List.map_toArray, List.map_cons, List.map_nil, beq_iff_eq, List.all_cons, List.all_nil, cond_true, List.set_cons_zero, List.set_cons_succ, List.drop_zero, List.drop_succ_cons, List.take_succ_cons, List.take_zero, List.getElem?_toArray, Option.map_none, Option.getD_none, TYA, hr]
  refine wpc_mono (level_spec (ha.mono ?_) g hi) ?_
  · repeat first | assumption | exact EXn.refl _ _ | refine EXn.more ?_ _ | refine EXn.put ?_ (by omega) _ | refine EX.trans ?_ (by assumption)
  rintro r σ1 ⟨rfl, hE1⟩
  have n1 := hE1.next
  simp only [next_more, next_put] at n1
  have e1 : EX σ σ1 := by repeat first | assumption | exact EXn.refl _ _ | refine EXn.more ?_ _ | refine EXn.put ?_ (by omega) _ | refine EX.trans ?_ (by assumption)
  have b1 : σ1.row σ.next = some ([.slice oa l.length ca, .int .i64 root], boxMeta) := by rw [hE1.row _ (by first | omega | (simp only [next_more, next_put] at *; omega))]; simp only [c_seq, RUNA, Nat.reduceAdd, Nat.reduceMod, Nat.reduceDiv, Nat.reduceSub, Nat.reduceMul, Nat.reduceEqDiff, Nat.reduceBEq, Nat.reduceLeDiff, Int.reduceToNat, fillS, wantG, vBox, Value.cells, one, putAt, Option.getD_some, Option.map_some, Option.bind_some, ne_eq, Option.some.injEq, Prod.mk.injEq, exists_and_left, exists_eq_left', exists_eq_left, List.size_toArray, List.length_cons, List.length_nil, if_true, if_false, exists_eq', exists_const, List.getElem?_cons_zero, List.getElem?_cons_succ, List.map_toArray, List.map_cons, List.map_nil, beq_iff_eq, List.all_cons, List.all_nil, cond_true, List.set_cons_zero, List.set_cons_succ, List.drop_zero, List.drop_succ_cons, List.take_succ_cons, List.take_zero, List.getElem?_toArray, Option.map_none, Option.getD_none]
  by_cases hv : lvl l i = v
  · have g1 : ((lvl l i : Int) != (v : Int)) = false := by simp [hv]
    have h2 : ¬ i < 2 ∨ v = 10 := by
      by_cases q : i < 2
      · right; simp only [lvl, q, if_true] at hv; exact hv.symm
      · exact Or.inl q
    obtain ⟨aid, aoff, arow, am, rfl, a1, a2, a3⟩ := hA (by omega)
    have z0 : (0 : Int) ≤ (i : Int) := by omega
    have z1 : (i : Int) < (l.length : Int) := by omega
    have f1 := flat_at1 a3 hi
    have f2 := flat_at2 a3 hi
    have ra := (e1.row aid a1).trans a2
    cases h with
    | true =>
      simp only [c_seq, RUNA, Nat.reduceAdd, Nat.reduceMod, Nat.reduceDiv, Nat.reduceSub, Nat.reduceMul, Nat.reduceEqDiff, Nat.reduceBEq, Nat.reduceLeDiff, Int.reduceToNat, fillS, wantG, vBox, Value.cells, one, putAt, Option.getD_some, Option.map_some, Option.bind_some, ne_eq, Option.some.injEq, Prod.mk.injEq, exists_and_left, exists_eq_left', exists_eq_left, List.size_toArray, List.length_cons, List.length_nil, if_true, if_false, exists_eq', exists_const, List.getElem?_cons_zero, List.getElem?_cons_succ, List.map_toArray, List.map_cons, List.map_nil, beq_iff_eq, List.all_cons, List.all_nil, cond_true, List.set_cons_zero, List.set_cons_succ, List.drop_zero, List.drop_succ_cons, List.take_succ_cons, List.take_zero, List.getElem?_toArray, Option.map_none, Option.getD_none, TYA, hr, g1, ia23 z0 z1, b1, ra, f1, f2]
      refine ⟨by simp only [blw, hv, if_true], ?_⟩
      repeat first | assumption | exact EXn.refl _ _ | refine EXn.more ?_ _ | refine EXn.put ?_ (by omega) _ | refine EX.trans ?_ (by assumption)
    | false =>
      simp only [c_seq, RUNA, Nat.reduceAdd, Nat.reduceMod, Nat.reduceDiv, Nat.reduceSub, Nat.reduceMul, Nat.reduceEqDiff, Nat.reduceBEq, Nat.reduceLeDiff, Int.reduceToNat, fillS, wantG, vBox, Value.cells, one, putAt, Option.getD_some, Option.map_some, Option.bind_some, ne_eq, Option.some.injEq, Prod.mk.injEq, exists_and_left, exists_eq_left', exists_eq_left, List.size_toArray, List.length_cons, List.length_nil, if_true, if_false, exists_eq', exists_const, List.getElem?_cons_zero, List.getElem?_cons_succ, List.map_toArray, List.map_cons, List.map_nil, beq_iff_eq, List.all_cons, List.all_nil, cond_true, List.set_cons_zero, List.set_cons_succ, List.drop_zero, List.drop_succ_cons, List.take_succ_cons, List.take_zero, List.getElem?_toArray, Option.map_none, Option.getD_none, TYA, hr, g1, ia23 z0 z1, b1, ra, f1, f2]
      refine ⟨by simp only [blw, hv, if_true, Bool.false_eq_true, if_false], ?_⟩
      repeat first | assumption | exact EXn.refl _ _ | refine EXn.more ?_ _ | refine EXn.put ?_ (by omega) _ | refine EX.trans ?_ (by assumption)
  · have g1 : ((lvl l i : Int) != (v : Int)) = true := by simp; omega
    simp only [c_seq, RUNA, Nat.reduceAdd, Nat.reduceMod, Nat.reduceDiv, Nat.reduceSub, Nat.reduceMul, Nat.reduceEqDiff, Nat.reduceBEq, Nat.reduceLeDiff, Int.reduceToNat, fillS, wantG, vBox, Value.cells, one, putAt, Option.getD_some, Option.map_some, Option.bind_some, ne_eq, Option.some.injEq, Prod.mk.injEq, exists_and_left, exists_eq_left', exists_eq_left, List.size_toArray, List.length_cons, List.length_nil, if_true, if_false, exists_eq', exists_const, List.getElem?_cons_zero, List.getElem?_cons_succ, List.map_toArray, List.map_cons, List.map_nil, beq_iff_eq, List.all_cons, List.all_nil, cond_true, List.set_cons_zero, List.set_cons_succ, List.drop_zero, List.drop_succ_cons, List.take_succ_cons, List.take_zero, List.getElem?_toArray, Option.map_none, Option.getD_none, TYA, hr, g1]
    refine ⟨by simp only [blw, hv, if_false], ?_⟩
    repeat first | assumption | exact EXn.refl _ _ | refine EXn.more ?_ _ | refine EXn.put ?_ (by omega) _ | refine EX.trans ?_ (by assumption)
end Go.Proofs.Ytlealdhgajomhaa
