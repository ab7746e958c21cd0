/- bdd.Valid$1, the traversal: the walk. -/
import Derived.Test.YtlealdhgajomhaaBddO
import Derived.Test.YtlealdhgajomhaaAiM
namespace Go.Proofs.Ytlealdhgajomhaa
set_option linter.unusedVariables false
open Go.AI
set_option linter.unusedSimpArgs false

theorem pvT_le {l : List Vtx} : ∀ (t : Dt) (i : Int) (nx m : Nat), Rep l t i → nx ≤ l.length → pvT l t i nx = some m → m ≤ l.length := by
  intro t
  induction t with
  | leaf b => intro i nx m _ h1 h; simp only [pvT, Option.some.injEq] at h; omega
  | node v lo hi ih1 ih2 =>
    intro i nx m hr h1 h
    obtain ⟨k, rfl, h2, h3, h4, h5, h6⟩ := hr
    simp only [pvT, Int.toNat_natCast] at h
    split at h
    · simp only [Option.some.injEq] at h; omega
    · simp only [Option.bind_eq_some_iff] at h
      obtain ⟨n1, q1, n2, q2, q3⟩ := h
      have := ih2 _ _ _ h6 (ih1 _ _ _ h5 h1 q1) q2
      split at q3
      · simp only [Option.some.injEq] at q3; omega
      · cases q3

/-- what the traversal sees -/
structure VB (n0 bd ro bl bn bo bv aid aoff ca : Nat) (l : List Vtx) (root : Int) (σ : St) (ok : Bool) (nx : Int) (left : List Bool) : Prop where
  fr : Fr σ
  lt : bv < σ.next
  ll : left.length = l.length
  rl : σ.row bl = some ([.slice (some ⟨ro, 0, none⟩) l.length l.length], boxMeta)
  rr : σ.row ro = some (left.map Value.bool, rowMeta 1)
  rk : σ.row bo = some ([.bool ok], boxMeta)
  rv : σ.row bv = some ([.func (.func 46) #[] #[.pointer (some ⟨bl, 0, none⟩), .pointer (some ⟨bo, 0, none⟩), .pointer (some ⟨bv, 0, none⟩), .pointer (some ⟨bd, 0, none⟩), .pointer (some ⟨bn, 0, none⟩)]], boxMeta)
  rd : σ.row bd = some ([.slice (some ⟨aid, aoff, none⟩) l.length ca, .int .i64 root], boxMeta)
  rn : σ.row bn = some ([.int .i64 nx], boxMeta)
  ra : ∃ row m, σ.row aid = some (row, m) ∧ (row.drop aoff).take (l.length * 3) = flat l

/-- what is so while all went well -/
def VI (l : List Vtx) (ok : Bool) (nx : Int) (left : List Bool) : Prop := ok = true → ∃ k : Nat, nx = k ∧ 2 ≤ k ∧ k ≤ l.length ∧ left = tab l.length fun j => decide (j < k)
def VP (l : List Vtx) (t : Dt) (i : Int) (ok : Bool) (nx : Int) (ok' : Bool) (nx' : Int) : Prop :=
  (ok = false → ok' = false) ∧ (ok = true → ∀ k : Nat, nx = k → match pvT l t i k with | some m => ok' = true ∧ nx' = (m : Int) | none => ok' = false)

theorem cut_at {row : List Value} {off n : Nat} {xs : List Value} (h : cut row off n = some xs) {j : Nat} (hj : j < n) : row[off + j]? = xs[j]? := by
  unfold cut at h
  cases hb : Nat.beq ((row.drop off).take n).length n with
  | false => simp only [hb, cond_false] at h; cases h
  | true => simp only [hb, cond_true, Option.some.injEq] at h; rw [← h, List.getElem?_take, if_pos hj, List.getElem?_drop]
theorem flat_at0 {row : List Value} {off : Nat} {l : List Vtx} (h : (row.drop off).take (l.length * 3) = flat l) {k : Nat} (hk : k < l.length) : row[off + k * 3]? = some (.int .i64 (vx l k).1) := cut_at (row_cut h hk) (j := 0) (by omega)
theorem flat_at1 {row : List Value} {off : Nat} {l : List Vtx} (h : (row.drop off).take (l.length * 3) = flat l) {k : Nat} (hk : k < l.length) : row[off + (k * 3 + 1)]? = some (.int .i64 (vx l k).2.1) := by
  rw [← Nat.add_assoc]; exact cut_at (row_cut h hk) (j := 1) (by omega)
theorem flat_at2 {row : List Value} {off : Nat} {l : List Vtx} (h : (row.drop off).take (l.length * 3) = flat l) {k : Nat} (hk : k < l.length) : row[off + (k * 3 + 2)]? = some (.int .i64 (vx l k).2.2) := by
  rw [← Nat.add_assoc]; exact cut_at (row_cut h hk) (j := 2) (by omega)
theorem lt_set {N k i : Nat} (h : i = k) : (tab N fun j => decide (j < k)).set i true = tab N fun j => decide (j < k + 1) := by
  subst h
  rw [tab_set]
  refine tab_congr fun j _ => ?_
  by_cases h : j = i
  · subst h; simp
  · rw [if_neg h]; congr 1; refine propext ⟨fun _ => by omega, fun _ => by omega⟩

set_option maxHeartbeats 2000000 in
theorem visitV (n0 bd ro bl bn bo bv aid aoff ca : Nat) (l : List Vtx) (root : Int) (g : Gd l) (hl : l.length < 1000000) (o1 : aid < n0) (o2 : n0 ≤ bd) (o3 : bd < ro) (o4 : ro < bl) (o5 : bl < bn) (o6 : bn < bo) (o7 : bo < bv) :
    ∀ (t : Dt) (i : Int) (σ : St) (ok : Bool) (nx : Int) (left : List Bool), Rep l t i → VB n0 bd ro bl bn bo bv aid aoff ca l root σ ok nx left → VI l ok nx left →
    wpc Try.prog 46 #[.int .i64 i, .pointer (some ⟨bl, 0, none⟩), .pointer (some ⟨bo, 0, none⟩), .pointer (some ⟨bv, 0, none⟩), .pointer (some ⟨bd, 0, none⟩), .pointer (some ⟨bn, 0, none⟩)] σ fun _ σ' =>
      ∃ ok' nx' left', VB n0 bd ro bl bn bo bv aid aoff ca l root σ' ok' nx' left' ∧ VI l ok' nx' left' ∧ VP l t i ok nx ok' nx' ∧ EXn n0 σ σ' := by
  intro t
  induction t with
  | leaf b =>
    intro i σ ok nx left hR hB hI
    have hlt := Rep.lt g.len hR
    obtain ⟨k, rfl⟩ : ∃ k : Nat, i = k := ⟨_, (Int.toNat_of_nonneg hlt.1).symm⟩
    refine body_go Try.func46 rfl ?_
    have hr := Try.results46
    have z0 : (0 : Int) ≤ (k : Int) := by omega
    have z1 : (k : Int) < (l.length : Int) := by omega
    have hv : (left.map Value.bool)[k]? = some (.bool (bt left k)) := by
      have : k < left.length := by rw [hB.ll]; omega
      simp [bt, this]
    have b2 : k < 2 := by simp only [Rep] at hR; split at hR <;> omega
    have done : ∀ τ, EX σ τ → ∃ ok' nx' left', VB n0 bd ro bl bn bo bv aid aoff ca l root τ ok' nx' left' ∧ VI l ok' nx' left' ∧ VP l (.leaf b) k ok nx ok' nx' ∧ EXn n0 σ τ := by
      intro τ e
      have hlt := hB.lt
      have en := e.next
      refine ⟨ok, nx, left, ⟨e.fr hB.fr, by omega, hB.ll, (e.row bl (by omega)).trans hB.rl, (e.row ro (by omega)).trans hB.rr, (e.row bo (by omega)).trans hB.rk, (e.row bv (by omega)).trans hB.rv, (e.row bd (by omega)).trans hB.rd, (e.row bn (by omega)).trans hB.rn, ?_⟩, hI, ⟨fun h => h, fun h k' hk' => ⟨h, hk'⟩⟩, e.weak (by omega)⟩
      obtain ⟨row, m, q1, q2⟩ := hB.ra
      exact ⟨row, m, (e.row aid (by omega)).trans q1, q2⟩
    cases hbt : bt left k with
    | true =>
      rw [hbt] at hv
      simp only [c_seq, RUNA, Nat.reduceAdd, Nat.reduceMod, Nat.reduceDiv, Nat.reduceSub, Nat.reduceMul, Nat.reduceEqDiff, Nat.reduceBEq, Nat.reduceLeDiff, Int.reduceToNat, fillS, wantG, vBox, Value.cells, one, putAt, Option.getD_some, Option.map_some, Option.bind_some, ne_eq, Option.some.injEq, Prod.mk.injEq, exists_and_left, exists_eq_left', exists_eq_left, List.size_toArray, List.length_cons, List.length_nil, if_true, if_false, exists_eq', exists_const, List.getElem?_cons_zero, List.getElem?_cons_succ, List.map_toArray, List.map_cons, List.map_nil, beq_iff_eq, List.all_cons, List.all_nil, cond_true, List.set_cons_zero, List.set_cons_succ, List.drop_zero, List.drop_succ_cons, List.take_succ_cons, List.take_zero, List.getElem?_toArray, Option.map_none, Option.getD_none, TYA, hr, hB.rl, hB.rr, ia43 z0 z1, hv]
      refine done _ ?_
      repeat first | assumption | exact EXn.refl _ _ | refine EXn.more ?_ _ | refine EXn.put ?_ (by omega) _ | refine EX.trans ?_ (by assumption)
    | false =>
      rw [hbt] at hv
      cases hok : ok with
      | true =>
        obtain ⟨q, _, q2, _, q3⟩ := hI hok
        rw [q3, bt_tab (by omega)] at hbt
        simp at hbt; omega
      | false =>
        have hk := hB.rk
        rw [hok] at hk
        simp only [c_seq, RUNA, Nat.reduceAdd, Nat.reduceMod, Nat.reduceDiv, Nat.reduceSub, Nat.reduceMul, Nat.reduceEqDiff, Nat.reduceBEq, Nat.reduceLeDiff, Int.reduceToNat, fillS, wantG, vBox, Value.cells, one, putAt, Option.getD_some, Option.map_some, Option.bind_some, ne_eq, Option.some.injEq, Prod.mk.injEq, exists_and_left, exists_eq_left', exists_eq_left, List.size_toArray, List.length_cons, List.length_nil, if_true, if_false, exists_eq', exists_const, List.getElem?_cons_zero, List.getElem?_cons_succ, List.map_toArray, List.map_cons, List.map_nil, beq_iff_eq, List.all_cons, List.all_nil, cond_true, List.set_cons_zero, List.set_cons_succ, List.drop_zero, List.drop_succ_cons, List.take_succ_cons, List.take_zero, List.getElem?_toArray, Option.map_none, Option.getD_none, TYA, hr, hB.rl, hB.rr, ia43 z0 z1, hv, hk]
        rw [← hok]
        refine done _ ?_
        repeat first | assumption | exact EXn.refl _ _ | refine EXn.more ?_ _ | refine EXn.put ?_ (by omega) _ | refine EX.trans ?_ (by assumption)
  | node v lo hi ih1 ih2 =>
    intro i σ ok nx left hR hB hI
    have hRR := hR
    obtain ⟨k, rfl, k2, k3, k4, k5, k6⟩ := hR
    refine body_go Try.func46 rfl ?_
    have hr := Try.results46
    have z0 : (0 : Int) ≤ (k : Int) := by omega
    have z1 : (k : Int) < (l.length : Int) := by omega
    have hv : (left.map Value.bool)[k]? = some (.bool (bt left k)) := by
      have : k < left.length := by rw [hB.ll]; omega
      simp [bt, this]
    have hlt := hB.lt
    have same : ∀ (τ : St) (q : Bool) (x : Int) (lf : List Bool) (σ : St), VB n0 bd ro bl bn bo bv aid aoff ca l root σ q x lf → EX σ τ → VB n0 bd ro bl bn bo bv aid aoff ca l root τ q x lf := by
      intro τ q x lf σ hB e
      have hlt := hB.lt
      have en := e.next
      refine ⟨e.fr hB.fr, by omega, hB.ll, (e.row bl (by omega)).trans hB.rl, (e.row ro (by omega)).trans hB.rr, (e.row bo (by omega)).trans hB.rk, (e.row bv (by omega)).trans hB.rv, (e.row bd (by omega)).trans hB.rd, (e.row bn (by omega)).trans hB.rn, ?_⟩
      obtain ⟨row, m, q1, q2⟩ := hB.ra
      exact ⟨row, m, (e.row aid (by omega)).trans q1, q2⟩
    cases hbt : bt left k with
    | true =>
      rw [hbt] at hv
      simp only [c_seq, RUNA, Nat.reduceAdd, Nat.reduceMod, Nat.reduceDiv, Nat.reduceSub, Nat.reduceMul, Nat.reduceEqDiff, Nat.reduceBEq, Nat.reduceLeDiff, Int.reduceToNat, fillS, wantG, vBox, Value.cells, one, putAt, Option.getD_some, Option.map_some, Option.bind_some, ne_eq, Option.some.injEq, Prod.mk.injEq, exists_and_left, exists_eq_left', exists_eq_left, List.size_toArray, List.length_cons, List.length_nil, if_true, if_false, exists_eq', exists_const, List.getElem?_cons_zero, List.getElem?_cons_succ, List.map_toArray, List.map_cons, List.map_nil, beq_iff_eq, List.all_cons, List.all_nil, cond_true, List.set_cons_zero, List.set_cons_succ, List.drop_zero, List.drop_succ_cons, List.take_succ_cons, List.take_zero, List.getElem?_toArray, Option.map_none, Option.getD_none, TYA, hr, hB.rl, hB.rr, ia43 z0 z1, hv]
      have e : EX σ (σ.more 8) := by repeat first | assumption | exact EXn.refl _ _ | refine EXn.more ?_ _ | refine EXn.put ?_ (by omega) _ | refine EX.trans ?_ (by assumption)
      refine ⟨ok, nx, left, same _ _ _ _ _ hB e, hI, ⟨fun h => h, fun h k' hk' => ?_⟩, e.weak (by omega)⟩
      obtain ⟨q, q1, q2, q4, q3⟩ := hI h
      rw [q3, bt_tab (by omega)] at hbt
      simp at hbt
      simp only [pvT]
      rw [if_pos (by omega)]
      exact ⟨h, hk'⟩
    | false =>
      rw [hbt] at hv
      cases hok : ok with
      | false =>
        have hk := hB.rk
        rw [hok] at hk
        simp only [c_seq, RUNA, Nat.reduceAdd, Nat.reduceMod, Nat.reduceDiv, Nat.reduceSub, Nat.reduceMul, Nat.reduceEqDiff, Nat.reduceBEq, Nat.reduceLeDiff, Int.reduceToNat, fillS, wantG, vBox, Value.cells, one, putAt, Option.getD_some, Option.map_some, Option.bind_some, ne_eq, Option.some.injEq, Prod.mk.injEq, exists_and_left, exists_eq_left', exists_eq_left, List.size_toArray, List.length_cons, List.length_nil, if_true, if_false, exists_eq', exists_const, List.getElem?_cons_zero, List.getElem?_cons_succ, List.map_toArray, List.map_cons, List.map_nil, beq_iff_eq, List.all_cons, List.all_nil, cond_true, List.set_cons_zero, List.set_cons_succ, List.drop_zero, List.drop_succ_cons, List.take_succ_cons, List.take_zero, List.getElem?_toArray, Option.map_none, Option.getD_none, TYA, hr, hB.rl, hB.rr, ia43 z0 z1, hv, hk]
        have e : EX σ (σ.more 8) := by repeat first | assumption | exact EXn.refl _ _ | refine EXn.more ?_ _ | refine EXn.put ?_ (by omega) _ | refine EX.trans ?_ (by assumption)
        refine ⟨ok, nx, left, same _ _ _ _ _ hB e, hI, ⟨fun _ => hok, fun h => by cases h⟩, e.weak (by omega)⟩
      | true =>
        subst hok
        obtain ⟨q, rfl, q2, q4, rfl⟩ := hI rfl
        rw [bt_tab (by omega)] at hbt
        simp at hbt
        have hB0 := hB
        obtain ⟨row, m, ra1, ra2⟩ := hB.ra
        have ca' := row_cut ra2 k3
        have rw1 : row[aoff + (k * 3 + 1)]? = some (.int .i64 (vx l k).2.1) := flat_at1 ra2 k3
        have rw2 : row[aoff + (k * 3 + 2)]? = some (.int .i64 (vx l k).2.2) := flat_at2 ra2 k3
        have d_aid_bd : ¬ aid = bd := by omega
        have d_aid_ro : ¬ aid = ro := by omega
        have d_aid_bl : ¬ aid = bl := by omega
        have d_aid_bn : ¬ aid = bn := by omega
        have d_aid_bo : ¬ aid = bo := by omega
        have d_aid_bv : ¬ aid = bv := by omega
        have d_bd_aid : ¬ bd = aid := by omega
        have d_bd_ro : ¬ bd = ro := by omega
        have d_bd_bl : ¬ bd = bl := by omega
        have d_bd_bn : ¬ bd = bn := by omega
        have d_bd_bo : ¬ bd = bo := by omega
        have d_bd_bv : ¬ bd = bv := by omega
        have d_ro_aid : ¬ ro = aid := by omega
        have d_ro_bd : ¬ ro = bd := by omega
        have d_ro_bl : ¬ ro = bl := by omega
        have d_ro_bn : ¬ ro = bn := by omega
        have d_ro_bo : ¬ ro = bo := by omega
        have d_ro_bv : ¬ ro = bv := by omega
        have d_bl_aid : ¬ bl = aid := by omega
        have d_bl_bd : ¬ bl = bd := by omega
        have d_bl_ro : ¬ bl = ro := by omega
        have d_bl_bn : ¬ bl = bn := by omega
        have d_bl_bo : ¬ bl = bo := by omega
        have d_bl_bv : ¬ bl = bv := by omega
        have d_bn_aid : ¬ bn = aid := by omega
        have d_bn_bd : ¬ bn = bd := by omega
        have d_bn_ro : ¬ bn = ro := by omega
        have d_bn_bl : ¬ bn = bl := by omega
        have d_bn_bo : ¬ bn = bo := by omega
        have d_bn_bv : ¬ bn = bv := by omega
        have d_bo_aid : ¬ bo = aid := by omega
        have d_bo_bd : ¬ bo = bd := by omega
        have d_bo_ro : ¬ bo = ro := by omega
        have d_bo_bl : ¬ bo = bl := by omega
        have d_bo_bn : ¬ bo = bn := by omega
        have d_bo_bv : ¬ bo = bv := by omega
        have d_bv_aid : ¬ bv = aid := by omega
        have d_bv_bd : ¬ bv = bd := by omega
        have d_bv_ro : ¬ bv = ro := by omega
        have d_bv_bl : ¬ bv = bl := by omega
        have d_bv_bn : ¬ bv = bn := by omega
        have d_bv_bo : ¬ bv = bo := by omega

        simp only [c_seq, RUNA, Nat.reduceAdd, Nat.reduceMod, Nat.reduceDiv, Nat.reduceSub, Nat.reduceMul, Nat.reduceEqDiff, Nat.reduceBEq, Nat.reduceLeDiff, Int.reduceToNat, fillS, wantG, vBox, Value.cells, one, putAt, Option.getD_some, Option.map_some, Option.bind_some, ne_eq, Option.some.injEq, Prod.mk.injEq, exists_and_left, exists_eq_left', exists_eq_left, List.size_toArray, List.length_cons, List.length_nil, if_true, if_false, exists_eq', exists_const, List.getElem?_cons_zero, List.getElem?_cons_succ, List.map_toArray, List.map_cons, List.map_nil, beq_iff_eq, List.all_cons, List.all_nil, cond_true, List.set_cons_zero, List.set_cons_succ, List.drop_zero, List.drop_succ_cons, List.take_succ_cons, List.take_zero, List.getElem?_toArray, Option.map_none, Option.getD_none, TYA, hr, hB.rl, hB.rr, ia43 z0 z1, hv, hB.rk]
        refine d_go (ms := [0, 0, 2, 0, 14, 30, 62, 127]) (order := [0, 1, 2, 3, 4, 5, 6, 7]) (by kernel_rfl) (by kernel_rfl) (by kernel_rfl) ?_
        simp only [YRUNA, Nat.reduceShiftRight, bit, List.filterMap_cons, List.filterMap_nil, List.filter_cons, List.filter_nil, List.forall_mem_cons, List.not_mem_nil, implies_true, List.getD_cons_zero, List.getD_cons_succ, eq_self, c_seq, RUNA, Nat.reduceAdd, Nat.reduceMod, Nat.reduceDiv, Nat.reduceSub, Nat.reduceMul, Nat.reduceEqDiff, Nat.reduceBEq, Nat.reduceLeDiff, Int.reduceToNat, fillS, wantG, vBox, Value.cells, one, putAt, Option.getD_some, Option.map_some, Option.bind_some, ne_eq, Option.some.injEq, Prod.mk.injEq, exists_and_left, exists_eq_left', exists_eq_left, List.size_toArray, List.length_cons, List.length_nil, if_true, if_false, exists_eq', exists_const, List.getElem?_cons_zero, List.getElem?_cons_succ, List.map_toArray, List.map_cons, List.map_nil, beq_iff_eq, List.all_cons, List.all_nil, cond_true, List.set_cons_zero, List.set_cons_succ, List.drop_zero, List.drop_succ_cons, List.take_succ_cons, List.take_zero, List.getElem?_toArray, Option.map_none, Option.getD_none, TYA, hB.rv, hB.rd, ra1, ia23 z0 z1, rw1, k_tmp, k_val, List.append_toArray, List.nil_append, List.cons_append, mm_none, row_putm]
        have e0 : EX σ ((σ.more 8).more 8) := by repeat first | assumption | exact EXn.refl _ _ | refine EXn.more ?_ _ | refine EXn.put ?_ (by omega) _ | refine EX.trans ?_ (by assumption)
        refine wpc_mono (ih1 (vx l k).2.1 _ true q _ k5 (same _ _ _ _ _ hB e0) hI) ?_
        rintro r1 σ1 ⟨ok1, nx1, left1, hB1, hI1, ⟨p1, p1'⟩, hE1⟩
        have n1 := hE1.next
        simp only [next_more] at n1
        obtain ⟨row', m', ra1', ra2'⟩ := hB1.ra
        have rw1' : row'[aoff + (k * 3 + 1)]? = some (.int .i64 (vx l k).2.1) := flat_at1 ra2' k3
        have rw2' : row'[aoff + (k * 3 + 2)]? = some (.int .i64 (vx l k).2.2) := flat_at2 ra2' k3
        simp only [YRUNA, Nat.reduceShiftRight, bit, List.filterMap_cons, List.filterMap_nil, List.filter_cons, List.filter_nil, List.forall_mem_cons, List.not_mem_nil, implies_true, List.getD_cons_zero, List.getD_cons_succ, eq_self, c_seq, RUNA, Nat.reduceAdd, Nat.reduceMod, Nat.reduceDiv, Nat.reduceSub, Nat.reduceMul, Nat.reduceEqDiff, Nat.reduceBEq, Nat.reduceLeDiff, Int.reduceToNat, fillS, wantG, vBox, Value.cells, one, putAt, Option.getD_some, Option.map_some, Option.bind_some, ne_eq, Option.some.injEq, Prod.mk.injEq, exists_and_left, exists_eq_left', exists_eq_left, List.size_toArray, List.length_cons, List.length_nil, if_true, if_false, exists_eq', exists_const, List.getElem?_cons_zero, List.getElem?_cons_succ, List.map_toArray, List.map_cons, List.map_nil, beq_iff_eq, List.all_cons, List.all_nil, cond_true, List.set_cons_zero, List.set_cons_succ, List.drop_zero, List.drop_succ_cons, List.take_succ_cons, List.take_zero, List.getElem?_toArray, Option.map_none, Option.getD_none, TYA, hB1.rv, hB1.rd, ra1', ia23 z0 z1, rw1', k_tmp, k_val, List.append_toArray, List.nil_append, List.cons_append, mm_none, row_putm]
        refine d_go (ms := [0, 0, 2, 0, 14, 30, 62, 127]) (order := [0, 1, 2, 3, 4, 5, 6, 7]) (by kernel_rfl) (by kernel_rfl) (by kernel_rfl) ?_
        simp only [YRUNA, Nat.reduceShiftRight, bit, List.filterMap_cons, List.filterMap_nil, List.filter_cons, List.filter_nil, List.forall_mem_cons, List.not_mem_nil, implies_true, List.getD_cons_zero, List.getD_cons_succ, eq_self, c_seq, RUNA, Nat.reduceAdd, Nat.reduceMod, Nat.reduceDiv, Nat.reduceSub, Nat.reduceMul, Nat.reduceEqDiff, Nat.reduceBEq, Nat.reduceLeDiff, Int.reduceToNat, fillS, wantG, vBox, Value.cells, one, putAt, Option.getD_some, Option.map_some, Option.bind_some, ne_eq, Option.some.injEq, Prod.mk.injEq, exists_and_left, exists_eq_left', exists_eq_left, List.size_toArray, List.length_cons, List.length_nil, if_true, if_false, exists_eq', exists_const, List.getElem?_cons_zero, List.getElem?_cons_succ, List.map_toArray, List.map_cons, List.map_nil, beq_iff_eq, List.all_cons, List.all_nil, cond_true, List.set_cons_zero, List.set_cons_succ, List.drop_zero, List.drop_succ_cons, List.take_succ_cons, List.take_zero, List.getElem?_toArray, Option.map_none, Option.getD_none, TYA, hB1.rv, hB1.rd, ra1', ia23 z0 z1, rw2', k_tmp, k_val, List.append_toArray, List.nil_append, List.cons_append, mm_none, row_putm]
        have e1 : EX σ1 (σ1.more 8) := by repeat first | assumption | exact EXn.refl _ _ | refine EXn.more ?_ _ | refine EXn.put ?_ (by omega) _ | refine EX.trans ?_ (by assumption)
        refine wpc_mono (ih2 (vx l k).2.2 _ ok1 nx1 left1 k6 (same _ _ _ _ _ hB1 e1) hI1) ?_
        rintro r2 σ2 ⟨ok2, nx2, left2, hB2, hI2, ⟨p2, p2'⟩, hE2⟩
        have n2 := hE2.next
        simp only [next_more] at n2
        obtain ⟨row'', m'', ra1'', ra2''⟩ := hB2.ra
        have rw2'' : row''[aoff + (k * 3 + 2)]? = some (.int .i64 (vx l k).2.2) := flat_at2 ra2'' k3
        have hlt2 := hB2.lt
        have eAll : EXn n0 σ σ2 := (((e0.weak (by omega)).trans hE1).trans ((EXn.refl n0 σ1).more 8)).trans hE2
        have hle : k + 1 ≤ (left2.map Value.bool).length := by rw [List.length_map, hB2.ll]; omega
        have build : ∀ (τ : St) (ok' : Bool) (nx' : Int), Fr τ → bv < τ.next → τ.row bl = σ2.row bl → τ.row ro = some ((left2.set k true).map Value.bool, rowMeta 1) → τ.row bo = some ([.bool ok'], boxMeta) → τ.row bv = σ2.row bv → τ.row bd = σ2.row bd → τ.row bn = some ([.int .i64 nx'], boxMeta) → τ.row aid = σ2.row aid → VB n0 bd ro bl bn bo bv aid aoff ca l root τ ok' nx' (left2.set k true) := by
          intro τ ok' nx' h1 h2 h3 h4 h5 h6 h7 h8 h9
          exact ⟨h1, h2, by rw [List.length_set]; exact hB2.ll, h3.trans hB2.rl, h4, h5, h6.trans hB2.rv, h7.trans hB2.rd, h8, ⟨row'', m'', h9.trans ra1'', ra2''⟩⟩
        have mapset : (left2.map Value.bool).set k (.bool true) = (left2.set k true).map Value.bool := by rw [List.map_set]
        cases hok2 : ok2 with
        | false =>
          have rk := hB2.rk
          rw [hok2] at rk
          simp only [YRUNA, Nat.reduceShiftRight, bit, List.filterMap_cons, List.filterMap_nil, List.filter_cons, List.filter_nil, List.forall_mem_cons, List.not_mem_nil, implies_true, List.getD_cons_zero, List.getD_cons_succ, eq_self, c_seq, RUNA, Nat.reduceAdd, Nat.reduceMod, Nat.reduceDiv, Nat.reduceSub, Nat.reduceMul, Nat.reduceEqDiff, Nat.reduceBEq, Nat.reduceLeDiff, Int.reduceToNat, fillS, wantG, vBox, Value.cells, one, putAt, Option.getD_some, Option.map_some, Option.bind_some, ne_eq, Option.some.injEq, Prod.mk.injEq, exists_and_left, exists_eq_left', exists_eq_left, List.size_toArray, List.length_cons, List.length_nil, if_true, if_false, exists_eq', exists_const, List.getElem?_cons_zero, List.getElem?_cons_succ, List.map_toArray, List.map_cons, List.map_nil, beq_iff_eq, List.all_cons, List.all_nil, cond_true, List.set_cons_zero, List.set_cons_succ, List.drop_zero, List.drop_succ_cons, List.take_succ_cons, List.take_zero, List.getElem?_toArray, Option.map_none, Option.getD_none, TYA, hB2.rv, hB2.rd, ra1'', ia23 z0 z1, rw2'', rk, hB2.rl, hB2.rr, hB2.rn, ia43 z0 z1, hle, hr, d_aid_bd, d_aid_ro, d_aid_bl, d_aid_bn, d_aid_bo, d_aid_bv, d_bd_aid, d_bd_ro, d_bd_bl, d_bd_bn, d_bd_bo, d_bd_bv, d_ro_aid, d_ro_bd, d_ro_bl, d_ro_bn, d_ro_bo, d_ro_bv, d_bl_aid, d_bl_bd, d_bl_ro, d_bl_bn, d_bl_bo, d_bl_bv, d_bn_aid, d_bn_bd, d_bn_ro, d_bn_bl, d_bn_bo, d_bn_bv, d_bo_aid, d_bo_bd, d_bo_ro, d_bo_bl, d_bo_bn, d_bo_bv, d_bv_aid, d_bv_bd, d_bv_ro, d_bv_bl, d_bv_bn, d_bv_bo]
          refine ⟨false, IntKind.i64.wrap (nx2 + 1), left2.set k true, build _ _ _ ?_ ?_ ?_ ?_ ?_ ?_ ?_ ?_ ?_, (fun h => by cases h), ⟨fun _ => rfl, fun _ k' hk' => ?_⟩, ?_⟩
          · have := hB2.fr; repeat first | assumption | refine Fr.more ?_ _ | refine Fr.put ?_ _ _
          · simp only [next_more, next_put]; omega
          · simp only [c_seq, RUNA, Nat.reduceAdd, Nat.reduceMod, Nat.reduceDiv, Nat.reduceSub, Nat.reduceMul, Nat.reduceEqDiff, Nat.reduceBEq, Nat.reduceLeDiff, Int.reduceToNat, fillS, wantG, vBox, Value.cells, one, putAt, Option.getD_some, Option.map_some, Option.bind_some, ne_eq, Option.some.injEq, Prod.mk.injEq, exists_and_left, exists_eq_left', exists_eq_left, List.size_toArray, List.length_cons, List.length_nil, if_true, if_false, exists_eq', exists_const, List.getElem?_cons_zero, List.getElem?_cons_succ, List.map_toArray, List.map_cons, List.map_nil, beq_iff_eq, List.all_cons, List.all_nil, cond_true, List.set_cons_zero, List.set_cons_succ, List.drop_zero, List.drop_succ_cons, List.take_succ_cons, List.take_zero, List.getElem?_toArray, Option.map_none, Option.getD_none, d_aid_bd, d_aid_ro, d_aid_bl, d_aid_bn, d_aid_bo, d_aid_bv, d_bd_aid, d_bd_ro, d_bd_bl, d_bd_bn, d_bd_bo, d_bd_bv, d_ro_aid, d_ro_bd, d_ro_bl, d_ro_bn, d_ro_bo, d_ro_bv, d_bl_aid, d_bl_bd, d_bl_ro, d_bl_bn, d_bl_bo, d_bl_bv, d_bn_aid, d_bn_bd, d_bn_ro, d_bn_bl, d_bn_bo, d_bn_bv, d_bo_aid, d_bo_bd, d_bo_ro, d_bo_bl, d_bo_bn, d_bo_bv, d_bv_aid, d_bv_bd, d_bv_ro, d_bv_bl, d_bv_bn, d_bv_bo]
          · simp only [c_seq, RUNA, Nat.reduceAdd, Nat.reduceMod, Nat.reduceDiv, Nat.reduceSub, Nat.reduceMul, Nat.reduceEqDiff, Nat.reduceBEq, Nat.reduceLeDiff, Int.reduceToNat, fillS, wantG, vBox, Value.cells, one, putAt, Option.getD_some, Option.map_some, Option.bind_some, ne_eq, Option.some.injEq, Prod.mk.injEq, exists_and_left, exists_eq_left', exists_eq_left, List.size_toArray, List.length_cons, List.length_nil, if_true, if_false, exists_eq', exists_const, List.getElem?_cons_zero, List.getElem?_cons_succ, List.map_toArray, List.map_cons, List.map_nil, beq_iff_eq, List.all_cons, List.all_nil, cond_true, List.set_cons_zero, List.set_cons_succ, List.drop_zero, List.drop_succ_cons, List.take_succ_cons, List.take_zero, List.getElem?_toArray, Option.map_none, Option.getD_none, d_aid_bd, d_aid_ro, d_aid_bl, d_aid_bn, d_aid_bo, d_aid_bv, d_bd_aid, d_bd_ro, d_bd_bl, d_bd_bn, d_bd_bo, d_bd_bv, d_ro_aid, d_ro_bd, d_ro_bl, d_ro_bn, d_ro_bo, d_ro_bv, d_bl_aid, d_bl_bd, d_bl_ro, d_bl_bn, d_bl_bo, d_bl_bv, d_bn_aid, d_bn_bd, d_bn_ro, d_bn_bl, d_bn_bo, d_bn_bv, d_bo_aid, d_bo_bd, d_bo_ro, d_bo_bl, d_bo_bn, d_bo_bv, d_bv_aid, d_bv_bd, d_bv_ro, d_bv_bl, d_bv_bn, d_bv_bo, mapset]
          · simp only [c_seq, RUNA, Nat.reduceAdd, Nat.reduceMod, Nat.reduceDiv, Nat.reduceSub, Nat.reduceMul, Nat.reduceEqDiff, Nat.reduceBEq, Nat.reduceLeDiff, Int.reduceToNat, fillS, wantG, vBox, Value.cells, one, putAt, Option.getD_some, Option.map_some, Option.bind_some, ne_eq, Option.some.injEq, Prod.mk.injEq, exists_and_left, exists_eq_left', exists_eq_left, List.size_toArray, List.length_cons, List.length_nil, if_true, if_false, exists_eq', exists_const, List.getElem?_cons_zero, List.getElem?_cons_succ, List.map_toArray, List.map_cons, List.map_nil, beq_iff_eq, List.all_cons, List.all_nil, cond_true, List.set_cons_zero, List.set_cons_succ, List.drop_zero, List.drop_succ_cons, List.take_succ_cons, List.take_zero, List.getElem?_toArray, Option.map_none, Option.getD_none, d_aid_bd, d_aid_ro, d_aid_bl, d_aid_bn, d_aid_bo, d_aid_bv, d_bd_aid, d_bd_ro, d_bd_bl, d_bd_bn, d_bd_bo, d_bd_bv, d_ro_aid, d_ro_bd, d_ro_bl, d_ro_bn, d_ro_bo, d_ro_bv, d_bl_aid, d_bl_bd, d_bl_ro, d_bl_bn, d_bl_bo, d_bl_bv, d_bn_aid, d_bn_bd, d_bn_ro, d_bn_bl, d_bn_bo, d_bn_bv, d_bo_aid, d_bo_bd, d_bo_ro, d_bo_bl, d_bo_bn, d_bo_bv, d_bv_aid, d_bv_bd, d_bv_ro, d_bv_bl, d_bv_bn, d_bv_bo]
          · simp only [c_seq, RUNA, Nat.reduceAdd, Nat.reduceMod, Nat.reduceDiv, Nat.reduceSub, Nat.reduceMul, Nat.reduceEqDiff, Nat.reduceBEq, Nat.reduceLeDiff, Int.reduceToNat, fillS, wantG, vBox, Value.cells, one, putAt, Option.getD_some, Option.map_some, Option.bind_some, ne_eq, Option.some.injEq, Prod.mk.injEq, exists_and_left, exists_eq_left', exists_eq_left, List.size_toArray, List.length_cons, List.length_nil, if_true, if_false, exists_eq', exists_const, List.getElem?_cons_zero, List.getElem?_cons_succ, List.map_toArray, List.map_cons, List.map_nil, beq_iff_eq, List.all_cons, List.all_nil, cond_true, List.set_cons_zero, List.set_cons_succ, List.drop_zero, List.drop_succ_cons, List.take_succ_cons, List.take_zero, List.getElem?_toArray, Option.map_none, Option.getD_none, d_aid_bd, d_aid_ro, d_aid_bl, d_aid_bn, d_aid_bo, d_aid_bv, d_bd_aid, d_bd_ro, d_bd_bl, d_bd_bn, d_bd_bo, d_bd_bv, d_ro_aid, d_ro_bd, d_ro_bl, d_ro_bn, d_ro_bo, d_ro_bv, d_bl_aid, d_bl_bd, d_bl_ro, d_bl_bn, d_bl_bo, d_bl_bv, d_bn_aid, d_bn_bd, d_bn_ro, d_bn_bl, d_bn_bo, d_bn_bv, d_bo_aid, d_bo_bd, d_bo_ro, d_bo_bl, d_bo_bn, d_bo_bv, d_bv_aid, d_bv_bd, d_bv_ro, d_bv_bl, d_bv_bn, d_bv_bo]
          · simp only [c_seq, RUNA, Nat.reduceAdd, Nat.reduceMod, Nat.reduceDiv, Nat.reduceSub, Nat.reduceMul, Nat.reduceEqDiff, Nat.reduceBEq, Nat.reduceLeDiff, Int.reduceToNat, fillS, wantG, vBox, Value.cells, one, putAt, Option.getD_some, Option.map_some, Option.bind_some, ne_eq, Option.some.injEq, Prod.mk.injEq, exists_and_left, exists_eq_left', exists_eq_left, List.size_toArray, List.length_cons, List.length_nil, if_true, if_false, exists_eq', exists_const, List.getElem?_cons_zero, List.getElem?_cons_succ, List.map_toArray, List.map_cons, List.map_nil, beq_iff_eq, List.all_cons, List.all_nil, cond_true, List.set_cons_zero, List.set_cons_succ, List.drop_zero, List.drop_succ_cons, List.take_succ_cons, List.take_zero, List.getElem?_toArray, Option.map_none, Option.getD_none, d_aid_bd, d_aid_ro, d_aid_bl, d_aid_bn, d_aid_bo, d_aid_bv, d_bd_aid, d_bd_ro, d_bd_bl, d_bd_bn, d_bd_bo, d_bd_bv, d_ro_aid, d_ro_bd, d_ro_bl, d_ro_bn, d_ro_bo, d_ro_bv, d_bl_aid, d_bl_bd, d_bl_ro, d_bl_bn, d_bl_bo, d_bl_bv, d_bn_aid, d_bn_bd, d_bn_ro, d_bn_bl, d_bn_bo, d_bn_bv, d_bo_aid, d_bo_bd, d_bo_ro, d_bo_bl, d_bo_bn, d_bo_bv, d_bv_aid, d_bv_bd, d_bv_ro, d_bv_bl, d_bv_bn, d_bv_bo]
          · simp only [c_seq, RUNA, Nat.reduceAdd, Nat.reduceMod, Nat.reduceDiv, Nat.reduceSub, Nat.reduceMul, Nat.reduceEqDiff, Nat.reduceBEq, Nat.reduceLeDiff, Int.reduceToNat, fillS, wantG, vBox, Value.cells, one, putAt, Option.getD_some, Option.map_some, Option.bind_some, ne_eq, Option.some.injEq, Prod.mk.injEq, exists_and_left, exists_eq_left', exists_eq_left, List.size_toArray, List.length_cons, List.length_nil, if_true, if_false, exists_eq', exists_const, List.getElem?_cons_zero, List.getElem?_cons_succ, List.map_toArray, List.map_cons, List.map_nil, beq_iff_eq, List.all_cons, List.all_nil, cond_true, List.set_cons_zero, List.set_cons_succ, List.drop_zero, List.drop_succ_cons, List.take_succ_cons, List.take_zero, List.getElem?_toArray, Option.map_none, Option.getD_none, d_aid_bd, d_aid_ro, d_aid_bl, d_aid_bn, d_aid_bo, d_aid_bv, d_bd_aid, d_bd_ro, d_bd_bl, d_bd_bn, d_bd_bo, d_bd_bv, d_ro_aid, d_ro_bd, d_ro_bl, d_ro_bn, d_ro_bo, d_ro_bv, d_bl_aid, d_bl_bd, d_bl_ro, d_bl_bn, d_bl_bo, d_bl_bv, d_bn_aid, d_bn_bd, d_bn_ro, d_bn_bl, d_bn_bo, d_bn_bv, d_bo_aid, d_bo_bd, d_bo_ro, d_bo_bl, d_bo_bn, d_bo_bv, d_bv_aid, d_bv_bd, d_bv_ro, d_bv_bl, d_bv_bn, d_bv_bo]
          · simp only [c_seq, RUNA, Nat.reduceAdd, Nat.reduceMod, Nat.reduceDiv, Nat.reduceSub, Nat.reduceMul, Nat.reduceEqDiff, Nat.reduceBEq, Nat.reduceLeDiff, Int.reduceToNat, fillS, wantG, vBox, Value.cells, one, putAt, Option.getD_some, Option.map_some, Option.bind_some, ne_eq, Option.some.injEq, Prod.mk.injEq, exists_and_left, exists_eq_left', exists_eq_left, List.size_toArray, List.length_cons, List.length_nil, if_true, if_false, exists_eq', exists_const, List.getElem?_cons_zero, List.getElem?_cons_succ, List.map_toArray, List.map_cons, List.map_nil, beq_iff_eq, List.all_cons, List.all_nil, cond_true, List.set_cons_zero, List.set_cons_succ, List.drop_zero, List.drop_succ_cons, List.take_succ_cons, List.take_zero, List.getElem?_toArray, Option.map_none, Option.getD_none, d_aid_bd, d_aid_ro, d_aid_bl, d_aid_bn, d_aid_bo, d_aid_bv, d_bd_aid, d_bd_ro, d_bd_bl, d_bd_bn, d_bd_bo, d_bd_bv, d_ro_aid, d_ro_bd, d_ro_bl, d_ro_bn, d_ro_bo, d_ro_bv, d_bl_aid, d_bl_bd, d_bl_ro, d_bl_bn, d_bl_bo, d_bl_bv, d_bn_aid, d_bn_bd, d_bn_ro, d_bn_bl, d_bn_bo, d_bn_bv, d_bo_aid, d_bo_bd, d_bo_ro, d_bo_bl, d_bo_bn, d_bo_bv, d_bv_aid, d_bv_bd, d_bv_ro, d_bv_bl, d_bv_bn, d_bv_bo]
          · obtain rfl : q = k' := by omega
            simp only [pvT, Int.toNat_natCast]
            rw [if_neg (by omega)]
            have w1 := p1' rfl q rfl
            cases hp : pvT l lo (vx l k).2.1 q with
            | none => trivial
            | some a =>
              rw [hp] at w1
              obtain ⟨w2, w3⟩ := w1
              have w4 := p2' w2 a w3
              simp only [Option.bind_some]
              cases hp2 : pvT l hi (vx l k).2.2 a with
              | none => trivial
              | some c => rw [hp2] at w4; rw [hok2] at w4; cases w4.1
          · refine EXn.trans eAll ?_
            repeat first | exact EXn.refl _ _ | refine EXn.more ?_ _ | refine EXn.put ?_ (by omega) _
        | true =>
          obtain ⟨m2, x1, x2, x3, x4⟩ := hI2 hok2
          have rk := hB2.rk
          rw [hok2] at rk
          have rn := hB2.rn
          rw [x1] at rn
          have hw : IntKind.i64.wrap ((m2 : Int) + 1) = ((m2 + 1 : Nat) : Int) := by rw [wrap64 (by omega) (by omega)]; rfl
          simp only [YRUNA, Nat.reduceShiftRight, bit, List.filterMap_cons, List.filterMap_nil, List.filter_cons, List.filter_nil, List.forall_mem_cons, List.not_mem_nil, implies_true, List.getD_cons_zero, List.getD_cons_succ, eq_self, c_seq, RUNA, Nat.reduceAdd, Nat.reduceMod, Nat.reduceDiv, Nat.reduceSub, Nat.reduceMul, Nat.reduceEqDiff, Nat.reduceBEq, Nat.reduceLeDiff, Int.reduceToNat, fillS, wantG, vBox, Value.cells, one, putAt, Option.getD_some, Option.map_some, Option.bind_some, ne_eq, Option.some.injEq, Prod.mk.injEq, exists_and_left, exists_eq_left', exists_eq_left, List.size_toArray, List.length_cons, List.length_nil, if_true, if_false, exists_eq', exists_const, List.getElem?_cons_zero, List.getElem?_cons_succ, List.map_toArray, List.map_cons, List.map_nil, beq_iff_eq, List.all_cons, List.all_nil, cond_true, List.set_cons_zero, List.set_cons_succ, List.drop_zero, List.drop_succ_cons, List.take_succ_cons, List.take_zero, List.getElem?_toArray, Option.map_none, Option.getD_none, TYA, hB2.rv, hB2.rd, ra1'', ia23 z0 z1, rw2'', rk, hB2.rl, hB2.rr, rn, ia43 z0 z1, hle, hw, hr, d_aid_bd, d_aid_ro, d_aid_bl, d_aid_bn, d_aid_bo, d_aid_bv, d_bd_aid, d_bd_ro, d_bd_bl, d_bd_bn, d_bd_bo, d_bd_bv, d_ro_aid, d_ro_bd, d_ro_bl, d_ro_bn, d_ro_bo, d_ro_bv, d_bl_aid, d_bl_bd, d_bl_ro, d_bl_bn, d_bl_bo, d_bl_bv, d_bn_aid, d_bn_bd, d_bn_ro, d_bn_bl, d_bn_bo, d_bn_bv, d_bo_aid, d_bo_bd, d_bo_ro, d_bo_bl, d_bo_bn, d_bo_bv, d_bv_aid, d_bv_bd, d_bv_ro, d_bv_bl, d_bv_bn, d_bv_bo]
          refine ⟨((k : Int) == (m2 : Int)), ((m2 + 1 : Nat) : Int), left2.set k true, build _ _ _ ?_ ?_ ?_ ?_ ?_ ?_ ?_ ?_ ?_, (fun h => ?_), ⟨(fun h => by cases h), fun _ k' hk' => ?_⟩, ?_⟩
          · have := hB2.fr; repeat first | assumption | refine Fr.more ?_ _ | refine Fr.put ?_ _ _
          · simp only [next_more, next_put]; omega
          · simp only [c_seq, RUNA, Nat.reduceAdd, Nat.reduceMod, Nat.reduceDiv, Nat.reduceSub, Nat.reduceMul, Nat.reduceEqDiff, Nat.reduceBEq, Nat.reduceLeDiff, Int.reduceToNat, fillS, wantG, vBox, Value.cells, one, putAt, Option.getD_some, Option.map_some, Option.bind_some, ne_eq, Option.some.injEq, Prod.mk.injEq, exists_and_left, exists_eq_left', exists_eq_left, List.size_toArray, List.length_cons, List.length_nil, if_true, if_false, exists_eq', exists_const, List.getElem?_cons_zero, List.getElem?_cons_succ, List.map_toArray, List.map_cons, List.map_nil, beq_iff_eq, List.all_cons, List.all_nil, cond_true, List.set_cons_zero, List.set_cons_succ, List.drop_zero, List.drop_succ_cons, List.take_succ_cons, List.take_zero, List.getElem?_toArray, Option.map_none, Option.getD_none, d_aid_bd, d_aid_ro, d_aid_bl, d_aid_bn, d_aid_bo, d_aid_bv, d_bd_aid, d_bd_ro, d_bd_bl, d_bd_bn, d_bd_bo, d_bd_bv, d_ro_aid, d_ro_bd, d_ro_bl, d_ro_bn, d_ro_bo, d_ro_bv, d_bl_aid, d_bl_bd, d_bl_ro, d_bl_bn, d_bl_bo, d_bl_bv, d_bn_aid, d_bn_bd, d_bn_ro, d_bn_bl, d_bn_bo, d_bn_bv, d_bo_aid, d_bo_bd, d_bo_ro, d_bo_bl, d_bo_bn, d_bo_bv, d_bv_aid, d_bv_bd, d_bv_ro, d_bv_bl, d_bv_bn, d_bv_bo]
          · simp only [c_seq, RUNA, Nat.reduceAdd, Nat.reduceMod, Nat.reduceDiv, Nat.reduceSub, Nat.reduceMul, Nat.reduceEqDiff, Nat.reduceBEq, Nat.reduceLeDiff, Int.reduceToNat, fillS, wantG, vBox, Value.cells, one, putAt, Option.getD_some, Option.map_some, Option.bind_some, ne_eq, Option.some.injEq, Prod.mk.injEq, exists_and_left, exists_eq_left', exists_eq_left, List.size_toArray, List.length_cons, List.length_nil, if_true, if_false, exists_eq', exists_const, List.getElem?_cons_zero, List.getElem?_cons_succ, List.map_toArray, List.map_cons, List.map_nil, beq_iff_eq, List.all_cons, List.all_nil, cond_true, List.set_cons_zero, List.set_cons_succ, List.drop_zero, List.drop_succ_cons, List.take_succ_cons, List.take_zero, List.getElem?_toArray, Option.map_none, Option.getD_none, d_aid_bd, d_aid_ro, d_aid_bl, d_aid_bn, d_aid_bo, d_aid_bv, d_bd_aid, d_bd_ro, d_bd_bl, d_bd_bn, d_bd_bo, d_bd_bv, d_ro_aid, d_ro_bd, d_ro_bl, d_ro_bn, d_ro_bo, d_ro_bv, d_bl_aid, d_bl_bd, d_bl_ro, d_bl_bn, d_bl_bo, d_bl_bv, d_bn_aid, d_bn_bd, d_bn_ro, d_bn_bl, d_bn_bo, d_bn_bv, d_bo_aid, d_bo_bd, d_bo_ro, d_bo_bl, d_bo_bn, d_bo_bv, d_bv_aid, d_bv_bd, d_bv_ro, d_bv_bl, d_bv_bn, d_bv_bo, mapset]
          · simp only [c_seq, RUNA, Nat.reduceAdd, Nat.reduceMod, Nat.reduceDiv, Nat.reduceSub, Nat.reduceMul, Nat.reduceEqDiff, Nat.reduceBEq, Nat.reduceLeDiff, Int.reduceToNat, fillS, wantG, vBox, Value.cells, one, putAt, Option.getD_some, Option.map_some, Option.bind_some, ne_eq, Option.some.injEq, Prod.mk.injEq, exists_and_left, exists_eq_left', exists_eq_left, List.size_toArray, List.length_cons, List.length_nil, if_true, if_false, exists_eq', exists_const, List.getElem?_cons_zero, List.getElem?_cons_succ, List.map_toArray, List.map_cons, List.map_nil, beq_iff_eq, List.all_cons, List.all_nil, cond_true, List.set_cons_zero, List.set_cons_succ, List.drop_zero, List.drop_succ_cons, List.take_succ_cons, List.take_zero, List.getElem?_toArray, Option.map_none, Option.getD_none, d_aid_bd, d_aid_ro, d_aid_bl, d_aid_bn, d_aid_bo, d_aid_bv, d_bd_aid, d_bd_ro, d_bd_bl, d_bd_bn, d_bd_bo, d_bd_bv, d_ro_aid, d_ro_bd, d_ro_bl, d_ro_bn, d_ro_bo, d_ro_bv, d_bl_aid, d_bl_bd, d_bl_ro, d_bl_bn, d_bl_bo, d_bl_bv, d_bn_aid, d_bn_bd, d_bn_ro, d_bn_bl, d_bn_bo, d_bn_bv, d_bo_aid, d_bo_bd, d_bo_ro, d_bo_bl, d_bo_bn, d_bo_bv, d_bv_aid, d_bv_bd, d_bv_ro, d_bv_bl, d_bv_bn, d_bv_bo]
          · simp only [c_seq, RUNA, Nat.reduceAdd, Nat.reduceMod, Nat.reduceDiv, Nat.reduceSub, Nat.reduceMul, Nat.reduceEqDiff, Nat.reduceBEq, Nat.reduceLeDiff, Int.reduceToNat, fillS, wantG, vBox, Value.cells, one, putAt, Option.getD_some, Option.map_some, Option.bind_some, ne_eq, Option.some.injEq, Prod.mk.injEq, exists_and_left, exists_eq_left', exists_eq_left, List.size_toArray, List.length_cons, List.length_nil, if_true, if_false, exists_eq', exists_const, List.getElem?_cons_zero, List.getElem?_cons_succ, List.map_toArray, List.map_cons, List.map_nil, beq_iff_eq, List.all_cons, List.all_nil, cond_true, List.set_cons_zero, List.set_cons_succ, List.drop_zero, List.drop_succ_cons, List.take_succ_cons, List.take_zero, List.getElem?_toArray, Option.map_none, Option.getD_none, d_aid_bd, d_aid_ro, d_aid_bl, d_aid_bn, d_aid_bo, d_aid_bv, d_bd_aid, d_bd_ro, d_bd_bl, d_bd_bn, d_bd_bo, d_bd_bv, d_ro_aid, d_ro_bd, d_ro_bl, d_ro_bn, d_ro_bo, d_ro_bv, d_bl_aid, d_bl_bd, d_bl_ro, d_bl_bn, d_bl_bo, d_bl_bv, d_bn_aid, d_bn_bd, d_bn_ro, d_bn_bl, d_bn_bo, d_bn_bv, d_bo_aid, d_bo_bd, d_bo_ro, d_bo_bl, d_bo_bn, d_bo_bv, d_bv_aid, d_bv_bd, d_bv_ro, d_bv_bl, d_bv_bn, d_bv_bo]
          · simp only [c_seq, RUNA, Nat.reduceAdd, Nat.reduceMod, Nat.reduceDiv, Nat.reduceSub, Nat.reduceMul, Nat.reduceEqDiff, Nat.reduceBEq, Nat.reduceLeDiff, Int.reduceToNat, fillS, wantG, vBox, Value.cells, one, putAt, Option.getD_some, Option.map_some, Option.bind_some, ne_eq, Option.some.injEq, Prod.mk.injEq, exists_and_left, exists_eq_left', exists_eq_left, List.size_toArray, List.length_cons, List.length_nil, if_true, if_false, exists_eq', exists_const, List.getElem?_cons_zero, List.getElem?_cons_succ, List.map_toArray, List.map_cons, List.map_nil, beq_iff_eq, List.all_cons, List.all_nil, cond_true, List.set_cons_zero, List.set_cons_succ, List.drop_zero, List.drop_succ_cons, List.take_succ_cons, List.take_zero, List.getElem?_toArray, Option.map_none, Option.getD_none, d_aid_bd, d_aid_ro, d_aid_bl, d_aid_bn, d_aid_bo, d_aid_bv, d_bd_aid, d_bd_ro, d_bd_bl, d_bd_bn, d_bd_bo, d_bd_bv, d_ro_aid, d_ro_bd, d_ro_bl, d_ro_bn, d_ro_bo, d_ro_bv, d_bl_aid, d_bl_bd, d_bl_ro, d_bl_bn, d_bl_bo, d_bl_bv, d_bn_aid, d_bn_bd, d_bn_ro, d_bn_bl, d_bn_bo, d_bn_bv, d_bo_aid, d_bo_bd, d_bo_ro, d_bo_bl, d_bo_bn, d_bo_bv, d_bv_aid, d_bv_bd, d_bv_ro, d_bv_bl, d_bv_bn, d_bv_bo]
          · simp only [c_seq, RUNA, Nat.reduceAdd, Nat.reduceMod, Nat.reduceDiv, Nat.reduceSub, Nat.reduceMul, Nat.reduceEqDiff, Nat.reduceBEq, Nat.reduceLeDiff, Int.reduceToNat, fillS, wantG, vBox, Value.cells, one, putAt, Option.getD_some, Option.map_some, Option.bind_some, ne_eq, Option.some.injEq, Prod.mk.injEq, exists_and_left, exists_eq_left', exists_eq_left, List.size_toArray, List.length_cons, List.length_nil, if_true, if_false, exists_eq', exists_const, List.getElem?_cons_zero, List.getElem?_cons_succ, List.map_toArray, List.map_cons, List.map_nil, beq_iff_eq, List.all_cons, List.all_nil, cond_true, List.set_cons_zero, List.set_cons_succ, List.drop_zero, List.drop_succ_cons, List.take_succ_cons, List.take_zero, List.getElem?_toArray, Option.map_none, Option.getD_none, d_aid_bd, d_aid_ro, d_aid_bl, d_aid_bn, d_aid_bo, d_aid_bv, d_bd_aid, d_bd_ro, d_bd_bl, d_bd_bn, d_bd_bo, d_bd_bv, d_ro_aid, d_ro_bd, d_ro_bl, d_ro_bn, d_ro_bo, d_ro_bv, d_bl_aid, d_bl_bd, d_bl_ro, d_bl_bn, d_bl_bo, d_bl_bv, d_bn_aid, d_bn_bd, d_bn_ro, d_bn_bl, d_bn_bo, d_bn_bv, d_bo_aid, d_bo_bd, d_bo_ro, d_bo_bl, d_bo_bn, d_bo_bv, d_bv_aid, d_bv_bd, d_bv_ro, d_bv_bl, d_bv_bn, d_bv_bo]
          · simp only [c_seq, RUNA, Nat.reduceAdd, Nat.reduceMod, Nat.reduceDiv, Nat.reduceSub, Nat.reduceMul, Nat.reduceEqDiff, Nat.reduceBEq, Nat.reduceLeDiff, Int.reduceToNat, fillS, wantG, vBox, Value.cells, one, putAt, Option.getD_some, Option.map_some, Option.bind_some, ne_eq, Option.some.injEq, Prod.mk.injEq, exists_and_left, exists_eq_left', exists_eq_left, List.size_toArray, List.length_cons, List.length_nil, if_true, if_false, exists_eq', exists_const, List.getElem?_cons_zero, List.getElem?_cons_succ, List.map_toArray, List.map_cons, List.map_nil, beq_iff_eq, List.all_cons, List.all_nil, cond_true, List.set_cons_zero, List.set_cons_succ, List.drop_zero, List.drop_succ_cons, List.take_succ_cons, List.take_zero, List.getElem?_toArray, Option.map_none, Option.getD_none, d_aid_bd, d_aid_ro, d_aid_bl, d_aid_bn, d_aid_bo, d_aid_bv, d_bd_aid, d_bd_ro, d_bd_bl, d_bd_bn, d_bd_bo, d_bd_bv, d_ro_aid, d_ro_bd, d_ro_bl, d_ro_bn, d_ro_bo, d_ro_bv, d_bl_aid, d_bl_bd, d_bl_ro, d_bl_bn, d_bl_bo, d_bl_bv, d_bn_aid, d_bn_bd, d_bn_ro, d_bn_bl, d_bn_bo, d_bn_bv, d_bo_aid, d_bo_bd, d_bo_ro, d_bo_bl, d_bo_bn, d_bo_bv, d_bv_aid, d_bv_bd, d_bv_ro, d_bv_bl, d_bv_bn, d_bv_bo]
          · have hkm : k = m2 := by simp at h; omega
            exact ⟨m2 + 1, rfl, by omega, by omega, by rw [x4, lt_set hkm]⟩
          · obtain rfl : q = k' := by omega
            simp only [pvT, Int.toNat_natCast]
            rw [if_neg (by omega)]
            have w1 := p1' rfl q rfl
            cases hp : pvT l lo (vx l k).2.1 q with
            | none => rw [hp] at w1; have := p2 w1; rw [hok2] at this; cases this
            | some a =>
              rw [hp] at w1
              obtain ⟨w2, w3⟩ := w1
              have w4 := p2' w2 a w3
              simp only [Option.bind_some]
              cases hp2 : pvT l hi (vx l k).2.2 a with
              | none => rw [hp2] at w4; rw [hok2] at w4; cases w4
              | some c =>
                rw [hp2] at w4
                have hc : c = m2 := by have := w4.2; omega
                subst hc
                simp only [Option.bind_some]
                by_cases hkc : (k : Int) = (c : Int)
                · rw [if_pos hkc]; simp [hkc]
                · rw [if_neg hkc]; simp; omega
          · refine EXn.trans eAll ?_
            repeat first | exact EXn.refl _ _ | refine EXn.more ?_ _ | refine EXn.put ?_ (by omega) _
end Go.Proofs.Ytlealdhgajomhaa
