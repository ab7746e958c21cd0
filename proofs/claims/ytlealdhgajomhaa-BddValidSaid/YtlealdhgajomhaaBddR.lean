/- The reference's order: the walk. -/
import Derived.Test.YtlealdhgajomhaaBddQ
namespace Go.Proofs.Ytlealdhgajomhaa
set_option linter.unusedVariables false
open Go.AI
set_option linter.unusedSimpArgs false

theorem ordT_len {l : List Vtx} : ∀ (t : Dt) (i : Int) (dn : List Int) (n : Nat), t.ok n → n ≤ 10 → (ordT l t i dn).length + 1 ≤ dn.length + 2 ^ (10 - n) := by
  intro t
  induction t with
  | leaf b => intro i dn n _ _; simp only [ordT]; have := Nat.two_pow_pos (10 - n); omega
  | node v lo hi ih1 ih2 =>
    intro i dn n ho hn
    have h1 := ih1 (vx l i.toNat).2.1 dn (v + 1) ho.2.2.2.1 (by have := ho.2.1; omega)
    have h2 := ih2 (vx l i.toNat).2.2 (ordT l lo (vx l i.toNat).2.1 dn) (v + 1) ho.2.2.2.2 (by have := ho.2.1; omega)
    have hv := ho.2.1
    have hp : 2 ^ (10 - v) = 2 * 2 ^ (10 - (v + 1)) := by rw [show 10 - v = (10 - (v + 1)) + 1 by omega, Nat.pow_succ]; omega
    have hq : 2 ^ (10 - v) ≤ 2 ^ (10 - n) := Nat.pow_le_pow_right (by decide) (by have := ho.1; omega)
    have := Nat.two_pow_pos (10 - n)
    simp only [ordT]
    split
    · omega
    · rw [List.length_append, List.length_cons, List.length_nil]; omega

def ints (l : List Int) : List Value := l.map fun k => .int .i64 k
theorem ints_len (l : List Int) : (ints l).length = l.length := by simp [ints]
theorem ints_app (l k : List Int) : ints (l ++ k) = ints l ++ ints k := by simp [ints]
theorem ints_at {l : List Int} {i : Nat} (h : i < l.length) : (ints l)[i]? = some (.int .i64 (l.getD i 0)) := by simp [ints, h]
/-- a list of numbers that grows, in the row 's' -/
def OL (σ : St) (v : Value) (dn : List Int) (s : Nat) : Prop := (v = .slice none 0 0 ∧ dn = []) ∨ (dn ≠ [] ∧ Own σ s 1 v dn.length (ints dn))
theorem OL.mono {s : Nat} {σ τ : St} {v : Value} {dn : List Int} (h : OL σ v dn s) (e : EX σ τ) : OL τ v dn s := by
  rcases h with h | ⟨h0, h1⟩
  · exact Or.inl h
  · have hs : s < σ.next := by obtain ⟨k, m, _, h, _⟩ := h1; exact h
    exact Or.inr ⟨h0, h1.mono e.next (e.row s hs)⟩
theorem OL.open {s : Nat} {σ : St} {v : Value} {dn : List Int} (h : OL σ v dn s) : ∃ o c, v = .slice o dn.length c ∧ (0 < dn.length → ∃ m, o = some ⟨s, 0, none⟩ ∧ s < σ.next ∧ σ.row s = some (ints dn, m)) := by
  rcases h with ⟨rfl, rfl⟩ | ⟨h0, k, m, rfl, h1, h2, _⟩
  · exact ⟨none, 0, rfl, fun h => by simp at h⟩
  · exact ⟨_, k, rfl, fun _ => ⟨m, rfl, h1, h2⟩⟩
theorem bs58_1 (id : Nat) (a : Int) : vBuildS Try.prog 58 1 #[(0, .int .i64 a)] id = some (.slice (some ⟨id, 0, none⟩) 1 1, .cells [.int .i64 a] (rowMeta 1)) := by kernel_rfl
/-- one more number -/
theorem OL.app {s id id' : Nat} {σ : St} {v : Value} {dn : List Int} {x : Int} {m : Mta} {ops : Array Operand} (h : OL σ v dn s) (hid : σ.row id = some ([.int .i64 x], m)) (hv : σ.ver id' = 0) (h1 : id' < σ.next) (hne : s ≠ id') (hl : dn.length ≤ 100000000) {K : Value × St → Prop}
    (k : ∀ r σ', OL σ' r (dn ++ [x]) id' → But s id' σ σ' → K (r, σ')) : ex1 (aappend Try.prog σ id' ⟨.builtin .append, ops, #[58, 58]⟩ v (.slice (some ⟨id, 0, none⟩) 1 1)) K := by
  have hs : aSource σ 1 (.slice (some ⟨id, 0, none⟩) 1 1) = some (1, ints [x]) := by
    simp only [aSource, hid]; rfl
  rcases h with ⟨rfl, rfl⟩ | ⟨h0, hO⟩
  · obtain ⟨r, σ', e1, e2, e3⟩ := app_nil (P := Try.prog) (σ := σ) (aops := ops) (t := 58) (t1 := 58) (id' := id') (y := .slice (some ⟨id, 0, none⟩) 1 1) (x := 1) (xs := ints [x]) Try.underlying58 Try.underlying58 if3 rfl hs rfl (by omega) (by omega) rfl (by omega) hv h1 (by omega) rfl
    exact ⟨_, e1, k r σ' (Or.inr ⟨by simp, e2⟩) ⟨e3.next, e3.vers, fun j _ h => e3.get j h h, fun j _ h => e3.row j h h⟩⟩
  · obtain ⟨r, σ', e1, e2, e3⟩ := app_own (P := Try.prog) (aops := ops) (t := 58) (t1 := 58) (id' := id') (y := .slice (some ⟨id, 0, none⟩) 1 1) (x := 1) (xs := ints [x]) hO Try.underlying58 Try.underlying58 if3 rfl hs rfl (by omega) (by omega) rfl (by omega) hv h1 hne (by omega) rfl
    refine ⟨_, e1, k r σ' (Or.inr ⟨by simp, ?_⟩) e3⟩
    rw [ints_app, List.length_append]; exact e2
theorem EXb.comp {s s1 : Nat} {σ τ υ : St} (h : EXb s σ τ) (hs : s1 = s ∨ σ.next ≤ s1) (k : EXb s1 τ υ) : EXb s σ υ :=
  ⟨Nat.le_trans h.next k.next, fun id hi hb => (k.get id (by have := h.next; omega) (by omega)).trans (h.get id hi hb), fun id hi hb => (k.row id (by have := h.next; omega) (by omega)).trans (h.row id hi hb), fun f => k.fr (h.fr f), fun g hg => (k.ver g (by have := h.next; omega)).trans (h.ver g hg)⟩
theorem But.fr {a b : Nat} {σ σ' : St} (h : But a b σ σ') (hF : Fr σ) : Fr σ' := fun g hg => by
  have := hF g (by rw [← h.next]; exact hg)
  unfold St.ver at this ⊢; rw [h.vers]; exact this
theorem But.exb {a b : Nat} {σ τ τ' : St} (h : But a b τ τ') (e : EXb a σ τ) (hb : σ.next ≤ b) : EXb a σ τ' :=
  ⟨by rw [h.next]; exact e.next, fun id hi ha => (h.get id ha (by omega)).trans (e.get id hi ha), fun id hi ha => (h.row id ha (by omega)).trans (e.row id hi ha), fun f => But.fr h (e.fr f), fun g hg => by unfold St.ver; rw [h.vers]; exact e.ver g hg⟩

theorem getD_mem {dn : List Int} {i : Int} (h : ∀ j, j < dn.length → dn.getD j 0 ≠ i) : i ∉ dn := by
  intro hm
  obtain ⟨j, hj, e⟩ := List.getElem_of_mem hm
  exact h j hj (by simpa [hj] using e)

set_option maxHeartbeats 2000000 in
theorem order_spec (l : List Vtx) (root : Int) (aid aoff ca : Nat) (arow : List Value) (am : Mta) (g : Gd l) (a3 : (arow.drop aoff).take (l.length * 3) = flat l) :
    ∀ (t : Dt) (i : Int) (σ : St) (v : Value) (dn : List Int) (lv s : Nat), Rep l t i → t.ok lv → lv ≤ 10 → dn.length + 2 ^ (10 - lv) ≤ 5000 → OL σ v dn s → σ.row aid = some (arow, am) → aid < σ.next → aid ≠ s → Fr σ →
    wpc Try.prog 47 #[v, .agg #[.slice (some ⟨aid, aoff, none⟩) l.length ca, .int .i64 root], .int .i64 i] σ fun r σ' => ∃ s', OL σ' r (ordT l t i dn) s' ∧ (s' = s ∨ (σ.next ≤ s' ∧ s' < σ'.next)) ∧ EXb s σ σ' ∧ Fr σ' := by
  intro t
  induction t with
  | leaf b =>
    intro i σ v dn lv s hR _ _ _ hO hra hai has hF
    refine body_go Try.func47 rfl ?_
    have hr := Try.results47
    have hi : decide (i < 2) = true := by simp only [Rep] at hR; rw [hR]; split <;> rfl
    simp only [c_seq, RUNA, Nat.reduceAdd, Nat.reduceMod, Nat.reduceDiv, Nat.reduceSub, Nat.reduceMul, Nat.reduceEqDiff, Nat.reduceBEq, Nat.reduceLeDiff, Int.reduceToNat, fillS, wantG, vBox, Value.cells, one, putAt, Option.getD_some, Option.map_some, Option.bind_some, ne_eq, Option.some.injEq, Prod.mk.injEq, exists_and_left, exists_eq_left', exists_eq_left, List.size_toArray, List.length_cons, List.length_nil, if_true, if_false, exists_eq', exists_const, List.getElem?_cons_zero, List.getElem?_cons_succ, List.map_toArray, List.map_cons, List.map_nil, beq_iff_eq, List.all_cons, List.all_nil, cond_true, List.set_cons_zero, List.set_cons_succ, List.drop_zero, List.drop_succ_cons, List.take_succ_cons, List.take_zero, List.getElem?_toArray, Option.map_none, Option.getD_none, TYA, hr, hi]
    have e : EX σ (((σ.more 2).put σ.next (AObj.cells [.slice (some ⟨aid, aoff, none⟩) l.length ca, .int .i64 root] boxMeta)).more 2 |>.more 2) := by repeat first | assumption | exact EXn.refl _ _ | refine EXn.more ?_ _ | refine EXn.put ?_ (by omega) _ | refine EX.trans ?_ (by assumption)
    exact ⟨s, hO.mono e, Or.inl rfl, .of e, e.fr hF⟩
  | node vv lo hi ih1 ih2 =>
    intro i σ v dn lv s hR ho hlv hsz hO hra hai has hF
    have hRR := hR
    obtain ⟨k, rfl, k2, k3, k4, k5, k6⟩ := hR
    refine body_go Try.func47 rfl ?_
    have hr := Try.results47
    have hi2 : decide ((k : Int) < 2) = false := by simp; omega
    obtain ⟨o, c, rfl, hop⟩ := hO.open
    simp only [c_seq, RUNA, Nat.reduceAdd, Nat.reduceMod, Nat.reduceDiv, Nat.reduceSub, Nat.reduceMul, Nat.reduceEqDiff, Nat.reduceBEq, Nat.reduceLeDiff, Int.reduceToNat, fillS, wantG, vBox, Value.cells, one, putAt, Option.getD_some, Option.map_some, Option.bind_some, ne_eq, Option.some.injEq, Prod.mk.injEq, exists_and_left, exists_eq_left', exists_eq_left, List.size_toArray, List.length_cons, List.length_nil, if_true, if_false, exists_eq', exists_const, List.getElem?_cons_zero, List.getElem?_cons_succ, List.map_toArray, List.map_cons, List.map_nil, beq_iff_eq, List.all_cons, List.all_nil, cond_true, List.set_cons_zero, List.set_cons_succ, List.drop_zero, List.drop_succ_cons, List.take_succ_cons, List.take_zero, List.getElem?_toArray, Option.map_none, Option.getD_none, TYA, hr, hi2]
    refine loop_go (fun m S τ => S.at 0 = .slice o dn.length c ∧ S.at 2 = .int .i64 k ∧ S.at 4 = .pointer (some ⟨σ.next, 0, none⟩) ∧ EX σ τ ∧ σ.next < τ.next ∧
      τ.row σ.next = some ([.slice (some ⟨aid, aoff, none⟩) l.length ca, .int .i64 root], boxMeta) ∧
      ∃ j : Nat, S.at 7 = .int .i64 j ∧ j ≤ dn.length ∧ m = dn.length - j ∧ ∀ p, p < j → dn.getD p 0 ≠ (k : Int)) dn.length ?_ ?_
    · simp only [c_seq, RUNA, Nat.reduceAdd, Nat.reduceMod, Nat.reduceDiv, Nat.reduceSub, Nat.reduceMul, Nat.reduceEqDiff, Nat.reduceBEq, Nat.reduceLeDiff, Int.reduceToNat, fillS, wantG, vBox, Value.cells, one, putAt, Option.getD_some, Option.map_some, Option.bind_some, ne_eq, Option.some.injEq, Prod.mk.injEq, exists_and_left, exists_eq_left', exists_eq_left, List.size_toArray, List.length_cons, List.length_nil, if_true, if_false, exists_eq', exists_const, List.getElem?_cons_zero, List.getElem?_cons_succ, List.map_toArray, List.map_cons, List.map_nil, beq_iff_eq, List.all_cons, List.all_nil, cond_true, List.set_cons_zero, List.set_cons_succ, List.drop_zero, List.drop_succ_cons, List.take_succ_cons, List.take_zero, List.getElem?_toArray, Option.map_none, Option.getD_none]
      refine ⟨?_, by omega, 0, rfl, by omega, by omega, fun p hp => by omega⟩
      repeat first | assumption | exact EXn.refl _ _ | refine EXn.more ?_ _ | refine EXn.put ?_ (by omega) _ | refine EX.trans ?_ (by assumption)
    rintro _ S τ ⟨s0, s2, s4, hE, hx, r0, j, s7, hj, rfl, hq⟩
    have hpow := Nat.two_pow_pos (10 - lv)
    by_cases hlt : j < dn.length
    · have hd : decide ((j : Int) < (dn.length : Int)) = true := by simp; omega
      obtain ⟨om, rfl, p1, p2⟩ := hop (by omega)
      have z0 : (0 : Int) ≤ (j : Int) := by omega
      have z1 : (j : Int) < (dn.length : Int) := by omega
      have rl := (hE.row s p1).trans p2
      have hv := ints_at hlt
      have hw : IntKind.i64.wrap ((j : Int) + 1) = ((j + 1 : Nat) : Int) := by rw [wrap64 (by omega) (by omega)]; rfl
      by_cases he : dn.getD j 0 = (k : Int)
      · have hc : (dn.getD j 0 == (k : Int)) = true := by simpa using he
        simp only [c_seq, RUNA, Nat.reduceAdd, Nat.reduceMod, Nat.reduceDiv, Nat.reduceSub, Nat.reduceMul, Nat.reduceEqDiff, Nat.reduceBEq, Nat.reduceLeDiff, Int.reduceToNat, fillS, wantG, vBox, Value.cells, one, putAt, Option.getD_some, Option.map_some, Option.bind_some, ne_eq, Option.some.injEq, Prod.mk.injEq, exists_and_left, exists_eq_left', exists_eq_left, List.size_toArray, List.length_cons, List.length_nil, if_true, if_false, exists_eq', exists_const, List.getElem?_cons_zero, List.getElem?_cons_succ, List.map_toArray, List.map_cons, List.map_nil, beq_iff_eq, List.all_cons, List.all_nil, cond_true, List.set_cons_zero, List.set_cons_succ, List.drop_zero, List.drop_succ_cons, List.take_succ_cons, List.take_zero, List.getElem?_toArray, Option.map_none, Option.getD_none, TYA, s0, s2, s4, s7, hd, ia58 z0 z1, rl, hv, hc, hr]
        have hin : (k : Int) ∈ dn := by
          rw [← he, List.getD_eq_getElem?_getD, List.getElem?_eq_getElem hlt]; exact List.getElem_mem _
        simp only [ordT, if_pos hin]
        have e : EX σ (((τ.more 4).more 6).more 2) := by repeat first | assumption | exact EXn.refl _ _ | refine EXn.more ?_ _ | refine EXn.put ?_ (by omega) _ | refine EX.trans ?_ (by assumption)
        exact ⟨s, hO.mono e, Or.inl rfl, .of e, e.fr hF⟩
      · have hc : (dn.getD j 0 == (k : Int)) = false := by simpa using he
        simp only [c_seq, RUNA, Nat.reduceAdd, Nat.reduceMod, Nat.reduceDiv, Nat.reduceSub, Nat.reduceMul, Nat.reduceEqDiff, Nat.reduceBEq, Nat.reduceLeDiff, Int.reduceToNat, fillS, wantG, vBox, Value.cells, one, putAt, Option.getD_some, Option.map_some, Option.bind_some, ne_eq, Option.some.injEq, Prod.mk.injEq, exists_and_left, exists_eq_left', exists_eq_left, List.size_toArray, List.length_cons, List.length_nil, if_true, if_false, exists_eq', exists_const, List.getElem?_cons_zero, List.getElem?_cons_succ, List.map_toArray, List.map_cons, List.map_nil, beq_iff_eq, List.all_cons, List.all_nil, cond_true, List.set_cons_zero, List.set_cons_succ, List.drop_zero, List.drop_succ_cons, List.take_succ_cons, List.take_zero, List.getElem?_toArray, Option.map_none, Option.getD_none, TYA, s0, s2, s4, s7, hd, ia58 z0 z1, rl, hv, hc, hw]
        refine ⟨dn.length - (j + 1), by omega, ?_, by omega, r0, j + 1, rfl, by omega, rfl, fun p hp => ?_⟩
        · repeat first | assumption | exact EXn.refl _ _ | refine EXn.more ?_ _ | refine EXn.put ?_ (by omega) _ | refine EX.trans ?_ (by assumption)
        · by_cases e : p = j
          · subst e; exact he
          · exact hq p (by omega)
    · have hd : decide ((j : Int) < (dn.length : Int)) = false := by simp; omega
      have hni : (k : Int) ∉ dn := getD_mem fun p hp => hq p (by omega)
      have z0 : (0 : Int) ≤ (k : Int) := by omega
      have z1 : (k : Int) < (l.length : Int) := by omega
      have f1 := flat_at1 a3 k3
      have f2 := flat_at2 a3 k3
      have ra := (hE.row aid (by omega)).trans hra
      have hnn := hE.next
      have hv10 := ho.2.1
      have hp2 : 2 ^ (10 - vv) = 2 * 2 ^ (10 - (vv + 1)) := by rw [show 10 - vv = (10 - (vv + 1)) + 1 by omega, Nat.pow_succ]; omega
      have hp3 : 2 ^ (10 - vv) ≤ 2 ^ (10 - lv) := Nat.pow_le_pow_right (by decide) (by have := ho.1; omega)
      simp only [c_seq, RUNA, Nat.reduceAdd, Nat.reduceMod, Nat.reduceDiv, Nat.reduceSub, Nat.reduceMul, Nat.reduceEqDiff, Nat.reduceBEq, Nat.reduceLeDiff, Int.reduceToNat, fillS, wantG, vBox, Value.cells, one, putAt, Option.getD_some, Option.map_some, Option.bind_some, ne_eq, Option.some.injEq, Prod.mk.injEq, exists_and_left, exists_eq_left', exists_eq_left, List.size_toArray, List.length_cons, List.length_nil, if_true, if_false, exists_eq', exists_const, List.getElem?_cons_zero, List.getElem?_cons_succ, List.map_toArray, List.map_cons, List.map_nil, beq_iff_eq, List.all_cons, List.all_nil, cond_true, List.set_cons_zero, List.set_cons_succ, List.drop_zero, List.drop_succ_cons, List.take_succ_cons, List.take_zero, List.getElem?_toArray, Option.map_none, Option.getD_none, TYA, s0, s2, s4, s7, hd]
      refine d_go (ms := [0, 0, 0, 4, 0, 28, 60, 124, 255, 511]) (order := [0, 1, 2, 3, 4, 5, 6, 7, 8, 9]) (by kernel_rfl) (by kernel_rfl) (by kernel_rfl) ?_
      simp only [YRUNA, Nat.reduceShiftRight, bit, List.filterMap_cons, List.filterMap_nil, List.filter_cons, List.filter_nil, List.forall_mem_cons, List.not_mem_nil, implies_true, List.getD_cons_zero, List.getD_cons_succ, eq_self, c_seq, RUNA, Nat.reduceAdd, Nat.reduceMod, Nat.reduceDiv, Nat.reduceSub, Nat.reduceMul, Nat.reduceEqDiff, Nat.reduceBEq, Nat.reduceLeDiff, Int.reduceToNat, fillS, wantG, vBox, Value.cells, one, putAt, Option.getD_some, Option.map_some, Option.bind_some, ne_eq, Option.some.injEq, Prod.mk.injEq, exists_and_left, exists_eq_left', exists_eq_left, List.size_toArray, List.length_cons, List.length_nil, if_true, if_false, exists_eq', exists_const, List.getElem?_cons_zero, List.getElem?_cons_succ, List.map_toArray, List.map_cons, List.map_nil, beq_iff_eq, List.all_cons, List.all_nil, cond_true, List.set_cons_zero, List.set_cons_succ, List.drop_zero, List.drop_succ_cons, List.take_succ_cons, List.take_zero, List.getElem?_toArray, Option.map_none, Option.getD_none, TYA, s0, s2, s4, r0, ia23 z0 z1, ra, f1]
      have e1 : EX σ ((τ.more 4).more 10) := by repeat first | assumption | exact EXn.refl _ _ | refine EXn.more ?_ _ | refine EXn.put ?_ (by omega) _ | refine EX.trans ?_ (by assumption)
      have ss : s < σ.next ∨ dn = [] := by
        rcases hO with ⟨_, h⟩ | ⟨_, _, _, _, h, _⟩
        · exact Or.inr h
        · exact Or.inl h
      -- a row of one's own: where it is not there yet, any number will do
      obtain ⟨u, hu, hu0⟩ : ∃ u, OL σ (.slice o dn.length c) dn u ∧ (u = s ∧ s < σ.next ∨ u = (τ.next + 4) + 10) := by
        rcases ss with h | h
        · exact ⟨s, hO, Or.inl ⟨rfl, h⟩⟩
        · refine ⟨_, ?_, Or.inr rfl⟩
          rcases hO with h' | ⟨h', _⟩
          · exact Or.inl h'
          · exact (h' h).elim
      refine wpc_mono (ih1 (vx l k).2.1 _ _ dn (vv + 1) u k5 ho.2.2.2.1 (by omega) (by omega) (hu.mono e1) ra (by first | omega | (simp only [next_more, next_put] at *; omega)) (by omega) (e1.fr hF)) ?_
      rintro r σ1 ⟨s1, hO1, hs1, hE1, hF1⟩
      have n1 := hE1.next
      simp only [next_more] at n1 hs1
      have hl1 := ordT_len (l := l) lo (vx l k).2.1 dn (vv + 1) ho.2.2.2.1 (by omega)
      have r1 : σ1.row σ.next = some ([.slice (some ⟨aid, aoff, none⟩) l.length ca, .int .i64 root], boxMeta) := (hE1.row σ.next (by first | omega | (simp only [next_more, next_put] at *; omega)) (by omega)).trans r0
      have ra1 : σ1.row aid = some (arow, am) := (hE1.row aid (by first | omega | (simp only [next_more, next_put] at *; omega)) (by omega)).trans ra
      obtain ⟨o1, c1, rfl, hop1⟩ := hO1.open
      simp only [YRUNA, Nat.reduceShiftRight, bit, List.filterMap_cons, List.filterMap_nil, List.filter_cons, List.filter_nil, List.forall_mem_cons, List.not_mem_nil, implies_true, List.getD_cons_zero, List.getD_cons_succ, eq_self, c_seq, RUNA, Nat.reduceAdd, Nat.reduceMod, Nat.reduceDiv, Nat.reduceSub, Nat.reduceMul, Nat.reduceEqDiff, Nat.reduceBEq, Nat.reduceLeDiff, Int.reduceToNat, fillS, wantG, vBox, Value.cells, one, putAt, Option.getD_some, Option.map_some, Option.bind_some, ne_eq, Option.some.injEq, Prod.mk.injEq, exists_and_left, exists_eq_left', exists_eq_left, List.size_toArray, List.length_cons, List.length_nil, if_true, if_false, exists_eq', exists_const, List.getElem?_cons_zero, List.getElem?_cons_succ, List.map_toArray, List.map_cons, List.map_nil, beq_iff_eq, List.all_cons, List.all_nil, cond_true, List.set_cons_zero, List.set_cons_succ, List.drop_zero, List.drop_succ_cons, List.take_succ_cons, List.take_zero, List.getElem?_toArray, Option.map_none, Option.getD_none, TYA, s0, s2, s4, r1, ia23 z0 z1, ra1, f1]
      refine d_go (ms := [0, 0, 0, 4, 0, 28, 60, 124, 255, 511]) (order := [0, 1, 2, 3, 4, 5, 6, 7, 8, 9]) (by kernel_rfl) (by kernel_rfl) (by kernel_rfl) ?_
      simp only [YRUNA, Nat.reduceShiftRight, bit, List.filterMap_cons, List.filterMap_nil, List.filter_cons, List.filter_nil, List.forall_mem_cons, List.not_mem_nil, implies_true, List.getD_cons_zero, List.getD_cons_succ, eq_self, c_seq, RUNA, Nat.reduceAdd, Nat.reduceMod, Nat.reduceDiv, Nat.reduceSub, Nat.reduceMul, Nat.reduceEqDiff, Nat.reduceBEq, Nat.reduceLeDiff, Int.reduceToNat, fillS, wantG, vBox, Value.cells, one, putAt, Option.getD_some, Option.map_some, Option.bind_some, ne_eq, Option.some.injEq, Prod.mk.injEq, exists_and_left, exists_eq_left', exists_eq_left, List.size_toArray, List.length_cons, List.length_nil, if_true, if_false, exists_eq', exists_const, List.getElem?_cons_zero, List.getElem?_cons_succ, List.map_toArray, List.map_cons, List.map_nil, beq_iff_eq, List.all_cons, List.all_nil, cond_true, List.set_cons_zero, List.set_cons_succ, List.drop_zero, List.drop_succ_cons, List.take_succ_cons, List.take_zero, List.getElem?_toArray, Option.map_none, Option.getD_none, TYA, s0, s2, s4, r1, ia23 z0 z1, ra1, f2]
      have e2 : EX σ1 (σ1.more 10) := by repeat first | assumption | exact EXn.refl _ _ | refine EXn.more ?_ _ | refine EXn.put ?_ (by omega) _ | refine EX.trans ?_ (by assumption)
      refine wpc_mono (ih2 (vx l k).2.2 _ _ (ordT l lo (vx l k).2.1 dn) (vv + 1) s1 k6 ho.2.2.2.2 (by omega) (by omega) (hO1.mono e2) ra1 (by first | omega | (simp only [next_more, next_put] at *; omega)) (by omega) (e2.fr hF1)) ?_
      rintro r σ2 ⟨s2', hO2, hs2, hE2, hF2⟩
      have n2 := hE2.next
      simp only [next_more] at n2 hs2
      have hl2 := ordT_len (l := l) hi (vx l k).2.2 (ordT l lo (vx l k).2.1 dn) (vv + 1) ho.2.2.2.2 (by omega)
      have r2 : σ2.row σ.next = some ([.slice (some ⟨aid, aoff, none⟩) l.length ca, .int .i64 root], boxMeta) := (hE2.row σ.next (by first | omega | (simp only [next_more, next_put] at *; omega)) (by omega)).trans r1
      have ra2 : σ2.row aid = some (arow, am) := (hE2.row aid (by first | omega | (simp only [next_more, next_put] at *; omega)) (by omega)).trans ra1
      obtain ⟨o2, c2, rfl, hop2⟩ := hO2.open
      simp only [YRUNA, Nat.reduceShiftRight, bit, List.filterMap_cons, List.filterMap_nil, List.filter_cons, List.filter_nil, List.forall_mem_cons, List.not_mem_nil, implies_true, List.getD_cons_zero, List.getD_cons_succ, eq_self, c_seq, RUNA, Nat.reduceAdd, Nat.reduceMod, Nat.reduceDiv, Nat.reduceSub, Nat.reduceMul, Nat.reduceEqDiff, Nat.reduceBEq, Nat.reduceLeDiff, Int.reduceToNat, fillS, wantG, vBox, Value.cells, one, putAt, Option.getD_some, Option.map_some, Option.bind_some, ne_eq, Option.some.injEq, Prod.mk.injEq, exists_and_left, exists_eq_left', exists_eq_left, List.size_toArray, List.length_cons, List.length_nil, if_true, if_false, exists_eq', exists_const, List.getElem?_cons_zero, List.getElem?_cons_succ, List.map_toArray, List.map_cons, List.map_nil, beq_iff_eq, List.all_cons, List.all_nil, cond_true, List.set_cons_zero, List.set_cons_succ, List.drop_zero, List.drop_succ_cons, List.take_succ_cons, List.take_zero, List.getElem?_toArray, Option.map_none, Option.getD_none, TYA, s0, s2, s4, r2, ia23 z0 z1, ra2, f2, bs58_1]
      have hne : s2' ≠ σ2.next + 3 := by omega
      refine OL.app (s := s2') (x := (k : Int)) (hO2.mono ?_) (m := rowMeta 1) ?_ ?_ ?_ hne (by omega) ?_
      · repeat first | assumption | exact EXn.refl _ _ | refine EXn.more ?_ _ | refine EXn.put ?_ (by omega) _ | refine EX.trans ?_ (by assumption)
      · simp only [c_seq, RUNA, Nat.reduceAdd, Nat.reduceMod, Nat.reduceDiv, Nat.reduceSub, Nat.reduceMul, Nat.reduceEqDiff, Nat.reduceBEq, Nat.reduceLeDiff, Int.reduceToNat, fillS, wantG, vBox, Value.cells, one, putAt, Option.getD_some, Option.map_some, Option.bind_some, ne_eq, Option.some.injEq, Prod.mk.injEq, exists_and_left, exists_eq_left', exists_eq_left, List.size_toArray, List.length_cons, List.length_nil, if_true, if_false, exists_eq', exists_const, List.getElem?_cons_zero, List.getElem?_cons_succ, List.map_toArray, List.map_cons, List.map_nil, beq_iff_eq, List.all_cons, List.all_nil, cond_true, List.set_cons_zero, List.set_cons_succ, List.drop_zero, List.drop_succ_cons, List.take_succ_cons, List.take_zero, List.getElem?_toArray, Option.map_none, Option.getD_none]
      · exact hF2 _ (by omega)
      · first | omega | (simp only [next_more, next_put] at *; omega)
      intro r σ3 hO3 hB
      simp only [c_seq, RUNA, Nat.reduceAdd, Nat.reduceMod, Nat.reduceDiv, Nat.reduceSub, Nat.reduceMul, Nat.reduceEqDiff, Nat.reduceBEq, Nat.reduceLeDiff, Int.reduceToNat, fillS, wantG, vBox, Value.cells, one, putAt, Option.getD_some, Option.map_some, Option.bind_some, ne_eq, Option.some.injEq, Prod.mk.injEq, exists_and_left, exists_eq_left', exists_eq_left, List.size_toArray, List.length_cons, List.length_nil, if_true, if_false, exists_eq', exists_const, List.getElem?_cons_zero, List.getElem?_cons_succ, List.map_toArray, List.map_cons, List.map_nil, beq_iff_eq, List.all_cons, List.all_nil, cond_true, List.set_cons_zero, List.set_cons_succ, List.drop_zero, List.drop_succ_cons, List.take_succ_cons, List.take_zero, List.getElem?_toArray, Option.map_none, Option.getD_none, hr]
      simp only [ordT, if_neg hni, Int.toNat_natCast]
      refine ⟨σ2.next + 3, hO3, Or.inr ⟨by omega, by rw [hB.next]; first | omega | (simp only [next_more, next_put] at *; omega)⟩, ?_, But.fr hB (by repeat first | assumption | refine Fr.more ?_ _ | refine Fr.put ?_ _ _)⟩
      have x1 : EXb u σ σ1 := (EXb.of e1).trans hE1
      have x2 : EXb u σ (((σ1.more 10))) := x1.more 10
      have x3 : EXb u σ σ2 := x2.comp (by omega) hE2
      have x4 : EXb s σ σ2 := by
        refine ⟨x3.next, fun id hi hb => x3.get id hi (by omega), fun id hi hb => x3.row id hi (by omega), x3.fr, x3.ver⟩
      refine ⟨by rw [hB.next]; have := x4.next; first | omega | (simp only [next_more, next_put] at *; omega), fun id hi hb => ?_, fun id hi hb => ?_, fun f => But.fr hB (by repeat first | assumption | refine Fr.more ?_ _ | refine Fr.put ?_ _ _), fun gg hg => ?_⟩
      · rw [hB.get id (by omega) (by omega), St.get_put, if_neg (by omega)]; exact x4.get id hi hb
      · rw [hB.row id (by omega) (by omega), row_put_ne (by omega)]; exact x4.row id hi hb
      · unfold St.ver; rw [hB.vers]; exact x4.ver gg hg
end Go.Proofs.Ytlealdhgajomhaa
