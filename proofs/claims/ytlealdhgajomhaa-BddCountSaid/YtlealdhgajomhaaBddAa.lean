/- bdd.newTable and table.vertex. -/
import Derived.Test.YtlealdhgajomhaaBddZ
namespace Go.Proofs.Ytlealdhgajomhaa
set_option linter.unusedVariables false
open Go.AI
set_option linter.unusedSimpArgs false

theorem fndL_first (x : Vtx) : ∀ (l : List Vtx) (j : Nat), j < fndL x l → vx l j ≠ x := by
  intro l
  induction l with
  | nil => intro j h; simp [fndL] at h
  | cons y l ih =>
    intro j h
    simp only [fndL] at h
    split at h
    · omega
    · rename_i e
      cases j with
      | zero => simpa [vx] using e
      | succ j => have := ih j (by omega); simpa [vx] using this
theorem fnd_first {x : Vtx} {l : List Vtx} (_h : fnd x l < l.length) : ∀ j, 2 ≤ j → j < fnd x l → vx l j ≠ x := by
  intro j h2 hj
  unfold fnd at hj
  have := fndL_first x (l.drop 2) (j - 2) (by omega)
  rwa [vx_drop, show j - 2 + 2 = j by omega] at this
/-- what the index of a table says -/
def idxG (l : List Vtx) : Vtx → Option Value := fun v => if fnd v l < l.length then some (.int .i64 (fnd v l : Nat)) else none
theorem idxG_new : idxG c01 = fun _ => none := by
  funext v
  have h : fnd v c01 = 2 := rfl
  have h2 : c01.length = 2 := rfl
  unfold idxG; rw [if_neg (by omega)]
theorem idxG_s {l : List Vtx} (h2 : 2 ≤ l.length) {x : Vtx} (hx : ¬ fnd x l < l.length) : mset (idxG l) x (.int .i64 (l.length : Nat)) = idxG (l ++ [x]) := by
  funext v
  unfold mset idxG
  have hl : (l ++ [x]).length = l.length + 1 := by simp
  by_cases e : v = x
  · subst e
    have : fnd v (l ++ [v]) = l.length := fnd_hit h2 (fun q q1 q2 => by rw [vx_app q2]; exact fnd_none hx q q1 q2) vx_last (by omega)
    rw [if_pos rfl, this, if_pos (by omega)]
  · rw [if_neg e]
    by_cases hv : fnd v l < l.length
    · obtain ⟨w1, w2⟩ := fnd_spec hv
      have : fnd v (l ++ [x]) = fnd v l := by
        refine fnd_hit w1 (fun q q1 q2 => ?_) (by rw [vx_app hv]; exact w2) (by omega)
        rw [vx_app (by omega)]
        intro e'
        have := fnd_first hv q q1 q2
        exact this e'
      rw [if_pos hv, this, if_pos (by omega)]
    · have : fnd v (l ++ [x]) = (l ++ [x]).length := by
        refine fnd_miss (by omega) (fun q q1 q2 => ?_)
        by_cases hq : q < l.length
        · rw [vx_app hq]; exact fnd_none hv q q1 hq
        · obtain rfl : q = l.length := by omega
          rw [vx_last]; exact fun e' => e e'.symm
      rw [if_neg hv, this, if_neg (by omega)]
structure TBL (b mid s : Nat) (σ : St) (l : List Vtx) : Prop where
  rb : ∃ sv, σ.row b = some ([sv, .map (some mid)], boxMeta) ∧ Own σ s 3 sv l.length (flat l)
  mp : MP enc3 σ mid (idxG l)
  gd : Gd l
  lt : b < σ.next ∧ mid < σ.next ∧ s < σ.next
  ne : b ≠ mid ∧ b ≠ s ∧ mid ≠ s
theorem TBL.mono {b mid s : Nat} {σ τ : St} {l : List Vtx} (h : TBL b mid s σ l) (e : EX σ τ) : TBL b mid s τ l := by
  obtain ⟨⟨sv, h1, h2⟩, h3, h4, ⟨h5, h6, h7⟩, h8⟩ := h
  have := e.next
  exact ⟨⟨sv, (e.row b h5).trans h1, h2.mono e.next (e.row s h7)⟩, h3.of (e.get mid h6), h4, ⟨by omega, by omega, by omega⟩, h8⟩
theorem bd85 (a : Option Addr) (n c m : Nat) : abuild Try.prog 85 #[(0, .slice a n c), (1, .map (some m))] = some (.agg #[.slice a n c, .map (some m)]) := by kernel_rfl

theorem newTable_spec (σ : St) : wpc Try.prog 50 #[] σ fun r σ' => ∃ b mid s, r = .pointer (some ⟨b, 0, none⟩) ∧ TBL b mid s σ' c01 ∧ σ.next ≤ b ∧ σ.next ≤ mid ∧ σ.next ≤ s ∧ EX σ σ' := by
  refine body_go Try.func50 rfl ?_
  have hr := Try.results50
  simp only [c_seq, RUNA, Nat.reduceAdd, Nat.reduceMod, Nat.reduceDiv, Nat.reduceSub, Nat.reduceMul, Nat.reduceEqDiff, Nat.reduceBEq, Nat.reduceLeDiff, Int.reduceToNat, fillS, wantG, vBox, Value.cells, one, putAt, Option.getD_some, Option.map_some, Option.bind_some, ne_eq, Option.some.injEq, Prod.mk.injEq, exists_and_left, exists_eq_left', exists_eq_left, List.size_toArray, List.length_cons, List.length_nil, if_true, if_false, exists_eq', exists_const, List.getElem?_cons_zero, List.getElem?_cons_succ, List.map_toArray, List.map_cons, List.map_nil, beq_iff_eq, List.all_cons, List.all_nil, cond_true, List.set_cons_zero, List.set_cons_succ, List.drop_zero, List.drop_succ_cons, List.take_succ_cons, List.take_zero, List.getElem?_toArray, Option.map_none, Option.getD_none, TYA, k_tmp, k_val, List.append_toArray, List.nil_append, List.cons_append, mm_none, row_putm, hr]
  refine wpc_mono (constants_spec _) ?_
  rintro r σ2 ⟨id, rfl, h1, h2, h3, hE⟩
  simp only [next_more, next_put] at h1
  have hn := hE.next
  simp only [next_more, next_put] at hn
  simp only [c_seq, RUNA, Nat.reduceAdd, Nat.reduceMod, Nat.reduceDiv, Nat.reduceSub, Nat.reduceMul, Nat.reduceEqDiff, Nat.reduceBEq, Nat.reduceLeDiff, Int.reduceToNat, fillS, wantG, vBox, Value.cells, one, putAt, Option.getD_some, Option.map_some, Option.bind_some, ne_eq, Option.some.injEq, Prod.mk.injEq, exists_and_left, exists_eq_left', exists_eq_left, List.size_toArray, List.length_cons, List.length_nil, if_true, if_false, exists_eq', exists_const, List.getElem?_cons_zero, List.getElem?_cons_succ, List.map_toArray, List.map_cons, List.map_nil, beq_iff_eq, List.all_cons, List.all_nil, cond_true, List.set_cons_zero, List.set_cons_succ, List.drop_zero, List.drop_succ_cons, List.take_succ_cons, List.take_zero, List.getElem?_toArray, Option.map_none, Option.getD_none, TYA, k_tmp, k_val, List.append_toArray, List.nil_append, List.cons_append, mm_none, row_putm, bd85, hr]
  have x1 : ¬ σ.next + 2 = σ.next + 4 := by omega
  have x2 : ¬ id = σ.next + 4 := by omega
  have x3 : ¬ id = σ.next + 2 := by omega
  refine ⟨σ.next + 4, rfl, σ.next + 2, id, ⟨⟨.slice (some ⟨id, 0, none⟩) 2 2, ?_, ⟨2, rowMeta 3, rfl, ?_, ?_, rfl, rfl, rfl, Or.inl rfl⟩⟩, ?_, gd01, ⟨by first | omega | (simp only [next_more, next_put] at *; omega), by first | omega | (simp only [next_more, next_put] at *; omega), by first | omega | (simp only [next_more, next_put] at *; omega)⟩, ⟨by omega, by omega, by omega⟩⟩, by omega, by omega, by omega, ?_⟩
  · simp only [c_seq, RUNA, Nat.reduceAdd, Nat.reduceMod, Nat.reduceDiv, Nat.reduceSub, Nat.reduceMul, Nat.reduceEqDiff, Nat.reduceBEq, Nat.reduceLeDiff, Int.reduceToNat, fillS, wantG, vBox, Value.cells, one, putAt, Option.getD_some, Option.map_some, Option.bind_some, ne_eq, Option.some.injEq, Prod.mk.injEq, exists_and_left, exists_eq_left', exists_eq_left, List.size_toArray, List.length_cons, List.length_nil, if_true, if_false, exists_eq', exists_const, List.getElem?_cons_zero, List.getElem?_cons_succ, List.map_toArray, List.map_cons, List.map_nil, beq_iff_eq, List.all_cons, List.all_nil, cond_true, List.set_cons_zero, List.set_cons_succ, List.drop_zero, List.drop_succ_cons, List.take_succ_cons, List.take_zero, List.getElem?_toArray, Option.map_none, Option.getD_none]
  · first | omega | (simp only [next_more, next_put] at *; omega)
  · simp only [c_seq, RUNA, Nat.reduceAdd, Nat.reduceMod, Nat.reduceDiv, Nat.reduceSub, Nat.reduceMul, Nat.reduceEqDiff, Nat.reduceBEq, Nat.reduceLeDiff, Int.reduceToNat, fillS, wantG, vBox, Value.cells, one, putAt, Option.getD_some, Option.map_some, Option.bind_some, ne_eq, Option.some.injEq, Prod.mk.injEq, exists_and_left, exists_eq_left', exists_eq_left, List.size_toArray, List.length_cons, List.length_nil, if_true, if_false, exists_eq', exists_const, List.getElem?_cons_zero, List.getElem?_cons_succ, List.map_toArray, List.map_cons, List.map_nil, beq_iff_eq, List.all_cons, List.all_nil, cond_true, List.set_cons_zero, List.set_cons_succ, List.drop_zero, List.drop_succ_cons, List.take_succ_cons, List.take_zero, List.getElem?_toArray, Option.map_none, Option.getD_none, k_tmp, k_val, List.append_toArray, List.nil_append, List.cons_append, mm_none, row_putm, x2, x3, h3]
  · rw [idxG_new]
    exact MP.new (by simp only [c_seq, RUNA, Nat.reduceAdd, Nat.reduceMod, Nat.reduceDiv, Nat.reduceSub, Nat.reduceMul, Nat.reduceEqDiff, Nat.reduceBEq, Nat.reduceLeDiff, Int.reduceToNat, fillS, wantG, vBox, Value.cells, one, putAt, Option.getD_some, Option.map_some, Option.bind_some, ne_eq, Option.some.injEq, Prod.mk.injEq, exists_and_left, exists_eq_left', exists_eq_left, List.size_toArray, List.length_cons, List.length_nil, if_true, if_false, exists_eq', exists_const, List.getElem?_cons_zero, List.getElem?_cons_succ, List.map_toArray, List.map_cons, List.map_nil, beq_iff_eq, List.all_cons, List.all_nil, cond_true, List.set_cons_zero, List.set_cons_succ, List.drop_zero, List.drop_succ_cons, List.take_succ_cons, List.take_zero, List.getElem?_toArray, Option.map_none, Option.getD_none, x1])
  · repeat first | assumption | exact EXn.refl _ _ | refine EXn.more ?_ _ | refine EXn.put ?_ (by omega) _ | refine EX.trans ?_ (by assumption)

/-! ### table.vertex -/
/-- the ids that a table writes -/
def tX (b mid s : Nat) : Nat → Prop := fun id => id = b ∨ id = mid ∨ id = s
theorem lkI {σ : St} {id : Nat} {l : List Vtx} (h : MP enc3 σ id (idxG l)) (v : Vtx) : alookup Try.prog σ 83 (.map (some id)) (.agg #[.int .i64 v.1, .int .i64 v.2.1, .int .i64 v.2.2]) true =
    some (if fnd v l < l.length then .tuple #[.int .i64 (fnd v l : Nat), .bool true] else .tuple #[.int .i64 0, .bool false]) := by
  by_cases hv : fnd v l < l.length
  · have := lookup_some keyV Try.underlying83 h (k := v) (v := .int .i64 (fnd v l : Nat)) (by simp [idxG, hv]) true
    rw [if_pos hv]; exact this
  · have := lookup_none keyV Try.underlying83 h (k := v) (by simp [idxG, hv]) (z := .int .i64 0) (by kernel_rfl) rfl true
    rw [if_neg hv]; exact this
def VOut (b mid s : Nat) (l : List Vtx) (v : Nat) (t u : Dt) (σ : St) (r : Value) (σ' : St) : Prop := ∃ (l' : List Vtx) (T : Dt) (n : Int) (s' : Nat), r = .int .i64 n ∧ TBL b mid s' σ' l' ∧ (∃ q, l' = l ++ q) ∧ l'.length ≤ l.length + 1 ∧ Rep l' T n ∧ T.ok v ∧ (∀ f, T.ev f = if f v = true then u.ev f else t.ev f) ∧
      (s' = s ∨ (σ.next ≤ s' ∧ s' < σ'.next)) ∧ EXF (tX b mid s) σ σ' ∧ Fr σ'
set_option maxHeartbeats 2000000 in
theorem tvertex_spec {b mid s : Nat} {σ : St} {l : List Vtx} {v : Nat} {lo hi : Int} {t u : Dt} (hT : TBL b mid s σ l) (hF : Fr σ) (hlen : l.length ≤ 1000000) (hv : v < 10) (ht : Rep l t lo) (hu : Rep l u hi) (hto : t.ok (v + 1)) (huo : u.ok (v + 1)) :
    wpc Try.prog 52 #[.pointer (some ⟨b, 0, none⟩), .int .i64 v, .int .i64 lo, .int .i64 hi] σ (VOut b mid s l v t u σ) := by
  refine body_go Try.func52 rfl ?_
  have hr := Try.results52
  by_cases he : lo = hi
  · have g1 : (lo == hi) = true := by simp [he]
    simp only [c_seq, RUNA, Nat.reduceAdd, Nat.reduceMod, Nat.reduceDiv, Nat.reduceSub, Nat.reduceMul, Nat.reduceEqDiff, Nat.reduceBEq, Nat.reduceLeDiff, Int.reduceToNat, fillS, wantG, vBox, Value.cells, one, putAt, Option.getD_some, Option.map_some, Option.bind_some, ne_eq, Option.some.injEq, Prod.mk.injEq, exists_and_left, exists_eq_left', exists_eq_left, List.size_toArray, List.length_cons, List.length_nil, if_true, if_false, exists_eq', exists_const, List.getElem?_cons_zero, List.getElem?_cons_succ, List.map_toArray, List.map_cons, List.map_nil, beq_iff_eq, List.all_cons, List.all_nil, cond_true, List.set_cons_zero, List.set_cons_succ, List.drop_zero, List.drop_succ_cons, List.take_succ_cons, List.take_zero, List.getElem?_toArray, Option.map_none, Option.getD_none, TYA, k_tmp, k_val, List.append_toArray, List.nil_append, List.cons_append, mm_none, row_putm, hr, g1]
    have e : EX σ (((σ.more 1).more 3).more 2) := by repeat first | assumption | exact EXn.refl _ _ | refine EXn.more ?_ _ | refine EXn.put ?_ (by omega) _ | refine EX.trans ?_ (by assumption)
    have htu : t = u := ht.fn (by rw [he]; exact hu)
    exact ⟨l, t, lo, s, rfl, hT.mono e, ⟨[], by simp⟩, by omega, ht, Dt.ok_mono hto (by omega), fun f => by rw [htu]; simp, Or.inl rfl, .of e, e.fr hF⟩
  · have g1 : (lo == hi) = false := by simp [he]
    have hne : t ≠ u := fun e => he (by subst e; exact Rep.inj hT.gd ht hu)
    have hlt := hT.lt
    simp only [c_seq, RUNA, Nat.reduceAdd, Nat.reduceMod, Nat.reduceDiv, Nat.reduceSub, Nat.reduceMul, Nat.reduceEqDiff, Nat.reduceBEq, Nat.reduceLeDiff, Int.reduceToNat, fillS, wantG, vBox, Value.cells, one, putAt, Option.getD_some, Option.map_some, Option.bind_some, ne_eq, Option.some.injEq, Prod.mk.injEq, exists_and_left, exists_eq_left', exists_eq_left, List.size_toArray, List.length_cons, List.length_nil, if_true, if_false, exists_eq', exists_const, List.getElem?_cons_zero, List.getElem?_cons_succ, List.map_toArray, List.map_cons, List.map_nil, beq_iff_eq, List.all_cons, List.all_nil, cond_true, List.set_cons_zero, List.set_cons_succ, List.drop_zero, List.drop_succ_cons, List.take_succ_cons, List.take_zero, List.getElem?_toArray, Option.map_none, Option.getD_none, TYA, k_tmp, k_val, List.append_toArray, List.nil_append, List.cons_append, mm_none, row_putm, hr, g1, bd40]
    refine gen_go (fun S τ => S.at 0 = .pointer (some ⟨b, 0, none⟩) ∧ S.at 9 = .pointer (some ⟨σ.next + 8, 0, none⟩) ∧ EX σ τ ∧ σ.next + 8 < τ.next ∧ τ.row (σ.next + 8) = some ([.int .i64 v, .int .i64 lo, .int .i64 hi], boxMeta)) ?_ ?_
    · simp only [c_seq, RUNA, Nat.reduceAdd, Nat.reduceMod, Nat.reduceDiv, Nat.reduceSub, Nat.reduceMul, Nat.reduceEqDiff, Nat.reduceBEq, Nat.reduceLeDiff, Int.reduceToNat, fillS, wantG, vBox, Value.cells, one, putAt, Option.getD_some, Option.map_some, Option.bind_some, ne_eq, Option.some.injEq, Prod.mk.injEq, exists_and_left, exists_eq_left', exists_eq_left, List.size_toArray, List.length_cons, List.length_nil, if_true, if_false, exists_eq', exists_const, List.getElem?_cons_zero, List.getElem?_cons_succ, List.map_toArray, List.map_cons, List.map_nil, beq_iff_eq, List.all_cons, List.all_nil, cond_true, List.set_cons_zero, List.set_cons_succ, List.drop_zero, List.drop_succ_cons, List.take_succ_cons, List.take_zero, List.getElem?_toArray, Option.map_none, Option.getD_none]
      refine ⟨?_, by omega⟩
      repeat first | assumption | exact EXn.refl _ _ | refine EXn.more ?_ _ | refine EXn.put ?_ (by omega) _ | refine EX.trans ?_ (by assumption)
    rintro S τ ⟨s0, s9, hE, hx, rx⟩
    have hTt := hT.mono hE
    have hFt := hE.fr hF
    obtain ⟨⟨sv, rb, hO⟩, mp, gd, ⟨l1, l2, l3⟩, ⟨n1, n2, n3⟩⟩ := id hTt
    have hO' := hO
    obtain ⟨kc, mm, rfl, o1, o2, o3, o4, o5, o6⟩ := hO'
    have hlk := lkI mp ((v : Int), lo, hi)
    refine d_go (ms := [0, 1, 3, 7, 0, 31, 63, 127, 127, 255, 1023]) (order := [0, 1, 2, 3, 4, 5, 6, 7, 8, 9, 10]) (by kernel_rfl) (by kernel_rfl) (by kernel_rfl) ?_
    by_cases hf : fnd ((v : Int), lo, hi) l < l.length
    · rw [if_pos hf] at hlk
      have hp := put_ok gd hv ht hu hto huo hne
      have hlk' : ∀ k, alookup Try.prog (τ.more k) 83 (.map (some mid)) (.agg #[.int .i64 (v : Int), .int .i64 lo, .int .i64 hi]) true = some (.tuple #[.int .i64 (fnd ((v : Int), lo, hi) l : Nat), .bool true]) := fun k => (lk_get rfl).trans hlk
      simp only [YRUNA, Nat.reduceShiftRight, bit, List.filterMap_cons, List.filterMap_nil, List.filter_cons, List.filter_nil, List.forall_mem_cons, List.not_mem_nil, implies_true, List.getD_cons_zero, List.getD_cons_succ, eq_self, c_seq, RUNA, Nat.reduceAdd, Nat.reduceMod, Nat.reduceDiv, Nat.reduceSub, Nat.reduceMul, Nat.reduceEqDiff, Nat.reduceBEq, Nat.reduceLeDiff, Int.reduceToNat, fillS, wantG, vBox, Value.cells, one, putAt, Option.getD_some, Option.map_some, Option.bind_some, ne_eq, Option.some.injEq, Prod.mk.injEq, exists_and_left, exists_eq_left', exists_eq_left, List.size_toArray, List.length_cons, List.length_nil, if_true, if_false, exists_eq', exists_const, List.getElem?_cons_zero, List.getElem?_cons_succ, List.map_toArray, List.map_cons, List.map_nil, beq_iff_eq, List.all_cons, List.all_nil, cond_true, List.set_cons_zero, List.set_cons_succ, List.drop_zero, List.drop_succ_cons, List.take_succ_cons, List.take_zero, List.getElem?_toArray, Option.map_none, Option.getD_none, TYA, k_tmp, k_val, List.append_toArray, List.nil_append, List.cons_append, mm_none, row_putm, s0, s9, rb, rx, hlk', hr]
      rw [put, if_pos hf] at hp
      have e2 : EX σ (((τ.more 11).more 1).more 2) := by repeat first | assumption | exact EXn.refl _ _ | refine EXn.more ?_ _ | refine EXn.put ?_ (by omega) _ | refine EX.trans ?_ (by assumption)
      refine ⟨l, .node v t u, _, s, rfl, hT.mono e2, ⟨[], by simp⟩, by omega, hp.2.1, ⟨Nat.le_refl _, hv, hne, hto, huo⟩, fun f => rfl, Or.inl rfl, .of e2, e2.fr hF⟩
    · rw [if_neg hf] at hlk
      have hlk' : ∀ k, alookup Try.prog (τ.more k) 83 (.map (some mid)) (.agg #[.int .i64 (v : Int), .int .i64 lo, .int .i64 hi]) true = some (.tuple #[.int .i64 0, .bool false]) := fun k => (lk_get rfl).trans hlk
      simp only [YRUNA, Nat.reduceShiftRight, bit, List.filterMap_cons, List.filterMap_nil, List.filter_cons, List.filter_nil, List.forall_mem_cons, List.not_mem_nil, implies_true, List.getD_cons_zero, List.getD_cons_succ, eq_self, c_seq, RUNA, Nat.reduceAdd, Nat.reduceMod, Nat.reduceDiv, Nat.reduceSub, Nat.reduceMul, Nat.reduceEqDiff, Nat.reduceBEq, Nat.reduceLeDiff, Int.reduceToNat, fillS, wantG, vBox, Value.cells, one, putAt, Option.getD_some, Option.map_some, Option.bind_some, ne_eq, Option.some.injEq, Prod.mk.injEq, exists_and_left, exists_eq_left', exists_eq_left, List.size_toArray, List.length_cons, List.length_nil, if_true, if_false, exists_eq', exists_const, List.getElem?_cons_zero, List.getElem?_cons_succ, List.map_toArray, List.map_cons, List.map_nil, beq_iff_eq, List.all_cons, List.all_nil, cond_true, List.set_cons_zero, List.set_cons_succ, List.drop_zero, List.drop_succ_cons, List.take_succ_cons, List.take_zero, List.getElem?_toArray, Option.map_none, Option.getD_none, TYA, k_tmp, k_val, List.append_toArray, List.nil_append, List.cons_append, mm_none, row_putm, s0, s9, rb, rx, hlk']
      refine gen_go (fun S τ' => S.at 0 = .pointer (some ⟨b, 0, none⟩) ∧ S.at 9 = .pointer (some ⟨σ.next + 8, 0, none⟩) ∧ EX τ τ') ?_ ?_
      · simp only [c_seq, RUNA, Nat.reduceAdd, Nat.reduceMod, Nat.reduceDiv, Nat.reduceSub, Nat.reduceMul, Nat.reduceEqDiff, Nat.reduceBEq, Nat.reduceLeDiff, Int.reduceToNat, fillS, wantG, vBox, Value.cells, one, putAt, Option.getD_some, Option.map_some, Option.bind_some, ne_eq, Option.some.injEq, Prod.mk.injEq, exists_and_left, exists_eq_left', exists_eq_left, List.size_toArray, List.length_cons, List.length_nil, if_true, if_false, exists_eq', exists_const, List.getElem?_cons_zero, List.getElem?_cons_succ, List.map_toArray, List.map_cons, List.map_nil, beq_iff_eq, List.all_cons, List.all_nil, cond_true, List.set_cons_zero, List.set_cons_succ, List.drop_zero, List.drop_succ_cons, List.take_succ_cons, List.take_zero, List.getElem?_toArray, Option.map_none, Option.getD_none, s0, s9]
        repeat first | assumption | exact EXn.refl _ _ | refine EXn.more ?_ _ | refine EXn.put ?_ (by omega) _ | refine EX.trans ?_ (by assumption)
      clear s0 s9
      rintro S τ' ⟨s0, s9, hE'⟩
      have en := hE'.next
      have rb' := (hE'.row b l1).trans rb
      have rx' := (hE'.row (σ.next + 8) hx).trans rx
      have hF' := hE'.fr hFt
      have bsn := bs23_1 (τ'.next + 6) (v : Int) lo hi
      have y1 : ¬ σ.next + 2 = τ'.next := by omega
      have y2 : ¬ b = τ'.next + 6 := by omega
      have y3 : ¬ σ.next + 8 = τ'.next + 6 := by omega
      refine d_go (ms := [0, 0, 2, 6, 14, 0, 32, 126, 255, 511, 1023]) (order := [0, 1, 2, 3, 4, 5, 6, 7, 8, 9, 10]) (by kernel_rfl) (by kernel_rfl) (by kernel_rfl) ?_
      simp only [YRUNA, Nat.reduceShiftRight, bit, List.filterMap_cons, List.filterMap_nil, List.filter_cons, List.filter_nil, List.forall_mem_cons, List.not_mem_nil, implies_true, List.getD_cons_zero, List.getD_cons_succ, eq_self, c_seq, RUNA, Nat.reduceAdd, Nat.reduceMod, Nat.reduceDiv, Nat.reduceSub, Nat.reduceMul, Nat.reduceEqDiff, Nat.reduceBEq, Nat.reduceLeDiff, Int.reduceToNat, fillS, wantG, vBox, Value.cells, one, putAt, Option.getD_some, Option.map_some, Option.bind_some, ne_eq, Option.some.injEq, Prod.mk.injEq, exists_and_left, exists_eq_left', exists_eq_left, List.size_toArray, List.length_cons, List.length_nil, if_true, if_false, exists_eq', exists_const, List.getElem?_cons_zero, List.getElem?_cons_succ, List.map_toArray, List.map_cons, List.map_nil, beq_iff_eq, List.all_cons, List.all_nil, cond_true, List.set_cons_zero, List.set_cons_succ, List.drop_zero, List.drop_succ_cons, List.take_succ_cons, List.take_zero, List.getElem?_toArray, Option.map_none, Option.getD_none, TYA, k_tmp, k_val, List.append_toArray, List.nil_append, List.cons_append, mm_none, row_putm, s0, s9, rb', rx', bsn, y1, y2, y3]
      refine app_ex (app_own (id := s) (n := l.length) (cs := flat l) (z := 3) (x := 1) (xs := flat [((v : Int), lo, hi)]) (Own.mono (hO.mono hE'.next (hE'.row s l3)) ?_ ?_) Try.underlying23 Try.underlying23 if40 rfl ?_ rfl (by omega) (by omega) rfl (by omega) ?_ ?_ (by omega) (by omega) rfl) ?_
      · first | omega | (simp only [next_more, next_put] at *; omega)
      · rw [row_put_ne (by omega), row_more]
      · simp only [aSource, row_put, if_true, good_row]; rfl
      · rw [ver_put]; exact hF' _ (by omega)
      · first | omega | (simp only [next_more, next_put] at *; omega)
      rintro r σ3 ⟨hO3, hB⟩
      have bn := hB.next
      simp only [next_put, next_more] at bn
      have rb3 : σ3.row b = some ([.slice (some ⟨s, 0, none⟩) l.length kc, .map (some mid)], boxMeta) := by rw [hB.row b n2 (by omega), row_put_ne (by omega)]; exact rb'
      have rx3 : σ3.row (σ.next + 8) = some ([.int .i64 v, .int .i64 lo, .int .i64 hi], boxMeta) := by rw [hB.row _ (by omega) (by omega), row_put_ne (by omega)]; exact rx'
      have ro3 : σ3.get (τ'.next + 6) = some (.cells (flat [((v : Int), lo, hi)]) (rowMeta 3)) := by rw [hB.get _ (by omega) (by omega), St.get_put, if_pos rfl]
      have hO3' := hO3
      obtain ⟨k3, m3', rfl, w1, w2, w3, w4, w5, w6⟩ := hO3'
      simp only [YRUNA, Nat.reduceShiftRight, bit, List.filterMap_cons, List.filterMap_nil, List.filter_cons, List.filter_nil, List.forall_mem_cons, List.not_mem_nil, implies_true, List.getD_cons_zero, List.getD_cons_succ, eq_self, c_seq, RUNA, Nat.reduceAdd, Nat.reduceMod, Nat.reduceDiv, Nat.reduceSub, Nat.reduceMul, Nat.reduceEqDiff, Nat.reduceBEq, Nat.reduceLeDiff, Int.reduceToNat, fillS, wantG, vBox, Value.cells, one, putAt, Option.getD_some, Option.map_some, Option.bind_some, ne_eq, Option.some.injEq, Prod.mk.injEq, exists_and_left, exists_eq_left', exists_eq_left, List.size_toArray, List.length_cons, List.length_nil, if_true, if_false, exists_eq', exists_const, List.getElem?_cons_zero, List.getElem?_cons_succ, List.map_toArray, List.map_cons, List.map_nil, beq_iff_eq, List.all_cons, List.all_nil, cond_true, List.set_cons_zero, List.set_cons_succ, List.drop_zero, List.drop_succ_cons, List.take_succ_cons, List.take_zero, List.getElem?_toArray, Option.map_none, Option.getD_none, TYA, k_tmp, k_val, List.append_toArray, List.nil_append, List.cons_append, mm_none, row_putm, s0, s9, rb3, rx3, ro3]
      have hl1 : (l ++ [((v : Int), lo, hi)]).length = l.length + 1 := by simp
      have hF3 : Fr σ3 := But.fr hB (by repeat first | assumption | refine Fr.more ?_ _ | refine Fr.put ?_ _ _)
      have hX3 : EXF (tX b mid s) σ σ3 := by
        have ex : EX σ τ' := EX.trans hE hE'
        refine ⟨by omega, fun id hi hx => ?_, fun id hi hx => ?_, fun _ => hF3, fun gg hg => ?_⟩
        · rw [hB.get id (fun e => hx (Or.inr (Or.inr e))) (by omega), St.get_put, if_neg (by omega), get_more]; exact ex.get id hi
        · rw [hB.row id (fun e => hx (Or.inr (Or.inr e))) (by omega), row_put_ne (by omega), row_more]; exact ex.row id hi
        · unfold St.ver; rw [hB.vers]; exact ex.ver gg hg
      have hM3 : MP enc3 σ3 mid (idxG l) := mp.of (by rw [hB.get mid n3 (by omega), St.get_put, if_neg (by omega), get_more]; exact hE'.get mid l2)
      refine gen_go (fun S τ5 => S.at 0 = .pointer (some ⟨b, 0, none⟩) ∧ S.at 9 = .pointer (some ⟨σ.next + 8, 0, none⟩) ∧ τ5.row b = some ([.slice (some ⟨τ'.next + 7, 0, none⟩) (l.length + 1) k3, .map (some mid)], boxMeta) ∧
        τ5.row (σ.next + 8) = some ([.int .i64 v, .int .i64 lo, .int .i64 hi], boxMeta) ∧ Own τ5 (τ'.next + 7) 3 (.slice (some ⟨τ'.next + 7, 0, none⟩) (l.length + 1) k3) (l.length + 1) (flat (l ++ [((v : Int), lo, hi)])) ∧ MP enc3 τ5 mid (idxG l) ∧ EXF (tX b mid s) σ τ5 ∧ Fr τ5 ∧ τ'.next + 7 < τ5.next) ?_ ?_
      · have z1 : ¬ σ.next + 8 = b := by omega
        have z2 : ¬ τ'.next + 7 = b := by omega
        simp only [c_seq, RUNA, Nat.reduceAdd, Nat.reduceMod, Nat.reduceDiv, Nat.reduceSub, Nat.reduceMul, Nat.reduceEqDiff, Nat.reduceBEq, Nat.reduceLeDiff, Int.reduceToNat, fillS, wantG, vBox, Value.cells, one, putAt, Option.getD_some, Option.map_some, Option.bind_some, ne_eq, Option.some.injEq, Prod.mk.injEq, exists_and_left, exists_eq_left', exists_eq_left, List.size_toArray, List.length_cons, List.length_nil, if_true, if_false, exists_eq', exists_const, List.getElem?_cons_zero, List.getElem?_cons_succ, List.map_toArray, List.map_cons, List.map_nil, beq_iff_eq, List.all_cons, List.all_nil, cond_true, List.set_cons_zero, List.set_cons_succ, List.drop_zero, List.drop_succ_cons, List.take_succ_cons, List.take_zero, List.getElem?_toArray, Option.map_none, Option.getD_none, s0, s9, z1, rx3]
        refine ⟨?_, ?_, hX3.put (Or.inr (Or.inl rfl)) _, by repeat first | assumption | refine Fr.more ?_ _ | refine Fr.put ?_ _ _, by omega⟩
        · rw [flat_append]
          exact hO3.mono (by first | omega | (simp only [next_more, next_put] at *; omega)) (row_put_ne z2)
        · exact hM3.of (by rw [St.get_put, if_neg (fun e => n1 e.symm)])
      clear s0 s9
      rintro S τ5 ⟨s0, s9, rb5, rx5, hO5, hM5, hX5, hF5, h5n⟩
      have hw : IntKind.i64.wrap ((l.length : Int) + 1 - 1) = ((l.length : Nat) : Int) := by rw [wrap64 (by omega) (by omega)]; omega
      have hc1 : ((l.length + 1 : Nat) : Int) = (l.length : Int) + 1 := by omega
      refine d_go (ms := [0, 1, 3, 7, 0, 0, 32, 96, 224, 480, 992, 2047]) (order := [0, 1, 2, 3, 4, 5, 6, 7, 8, 9, 10, 11]) (by kernel_rfl) (by kernel_rfl) (by kernel_rfl) ?_
      simp only [YRUNA, Nat.reduceShiftRight, bit, List.filterMap_cons, List.filterMap_nil, List.filter_cons, List.filter_nil, List.forall_mem_cons, List.not_mem_nil, implies_true, List.getD_cons_zero, List.getD_cons_succ, eq_self, c_seq, RUNA, Nat.reduceAdd, Nat.reduceMod, Nat.reduceDiv, Nat.reduceSub, Nat.reduceMul, Nat.reduceEqDiff, Nat.reduceBEq, Nat.reduceLeDiff, Int.reduceToNat, fillS, wantG, vBox, Value.cells, one, putAt, Option.getD_some, Option.map_some, Option.bind_some, ne_eq, Option.some.injEq, Prod.mk.injEq, exists_and_left, exists_eq_left', exists_eq_left, List.size_toArray, List.length_cons, List.length_nil, if_true, if_false, exists_eq', exists_const, List.getElem?_cons_zero, List.getElem?_cons_succ, List.map_toArray, List.map_cons, List.map_nil, beq_iff_eq, List.all_cons, List.all_nil, cond_true, List.set_cons_zero, List.set_cons_succ, List.drop_zero, List.drop_succ_cons, List.take_succ_cons, List.take_zero, List.getElem?_toArray, Option.map_none, Option.getD_none, TYA, k_tmp, k_val, List.append_toArray, List.nil_append, List.cons_append, mm_none, row_putm, s0, s9, rb5, rx5, hc1, hw]
      refine update_ex keyV Try.underlying83 hM5 ?_ (k := ((v : Int), lo, hi)) rfl ?_
      · simp only [c_seq, RUNA, Nat.reduceAdd, Nat.reduceMod, Nat.reduceDiv, Nat.reduceSub, Nat.reduceMul, Nat.reduceEqDiff, Nat.reduceBEq, Nat.reduceLeDiff, Int.reduceToNat, fillS, wantG, vBox, Value.cells, one, putAt, Option.getD_some, Option.map_some, Option.bind_some, ne_eq, Option.some.injEq, Prod.mk.injEq, exists_and_left, exists_eq_left', exists_eq_left, List.size_toArray, List.length_cons, List.length_nil, if_true, if_false, exists_eq', exists_const, List.getElem?_cons_zero, List.getElem?_cons_succ, List.map_toArray, List.map_cons, List.map_nil, beq_iff_eq, List.all_cons, List.all_nil, cond_true, List.set_cons_zero, List.set_cons_succ, List.drop_zero, List.drop_succ_cons, List.take_succ_cons, List.take_zero, List.getElem?_toArray, Option.map_none, Option.getD_none]
      intro es' hM6
      rw [idxG_s gd.len hf] at hM6
      have z3 : ¬ b = mid := n1
      have z4 : ¬ τ'.next + 7 = mid := by omega
      have z5 : ¬ σ.next + 8 = mid := by omega
      simp only [YRUNA, Nat.reduceShiftRight, bit, List.filterMap_cons, List.filterMap_nil, List.filter_cons, List.filter_nil, List.forall_mem_cons, List.not_mem_nil, implies_true, List.getD_cons_zero, List.getD_cons_succ, eq_self, c_seq, RUNA, Nat.reduceAdd, Nat.reduceMod, Nat.reduceDiv, Nat.reduceSub, Nat.reduceMul, Nat.reduceEqDiff, Nat.reduceBEq, Nat.reduceLeDiff, Int.reduceToNat, fillS, wantG, vBox, Value.cells, one, putAt, Option.getD_some, Option.map_some, Option.bind_some, ne_eq, Option.some.injEq, Prod.mk.injEq, exists_and_left, exists_eq_left', exists_eq_left, List.size_toArray, List.length_cons, List.length_nil, if_true, if_false, exists_eq', exists_const, List.getElem?_cons_zero, List.getElem?_cons_succ, List.map_toArray, List.map_cons, List.map_nil, beq_iff_eq, List.all_cons, List.all_nil, cond_true, List.set_cons_zero, List.set_cons_succ, List.drop_zero, List.drop_succ_cons, List.take_succ_cons, List.take_zero, List.getElem?_toArray, Option.map_none, Option.getD_none, TYA, k_tmp, k_val, List.append_toArray, List.nil_append, List.cons_append, mm_none, row_putm, s0, s9, rb5, rx5, hc1, hw, z3, z4, z5, hr]
      have hp := put_ok gd hv ht hu hto huo hne
      have hfl := fnd_len gd.len hf
      rw [put, if_neg hf, hfl] at hp
      have hOf : Own (((τ5.more 12).put mid (AObj.map es')).more 7) (τ'.next + 7) 3 (.slice (some ⟨τ'.next + 7, 0, none⟩) (l.length + 1) k3) (l ++ [((v : Int), lo, hi)]).length (flat (l ++ [((v : Int), lo, hi)])) := by
        rw [hl1]
        refine hO5.mono (by first | omega | (simp only [next_more, next_put] at *; omega)) ?_
        rw [row_more, row_put_ne z4, row_more]
      have hMf : MP enc3 (((τ5.more 12).put mid (AObj.map es')).more 7) mid (idxG (l ++ [((v : Int), lo, hi)])) := hM6.of rfl
      refine ⟨l ++ [((v : Int), lo, hi)], .node v t u, _, τ'.next + 7, rfl, ⟨⟨_, ?_, hOf⟩, hMf, hp.1, ⟨?_, ?_, ?_⟩, ⟨n1, by omega, by omega⟩⟩, ⟨_, rfl⟩, by omega, hp.2.1, ⟨Nat.le_refl _, hv, hne, hto, huo⟩, fun f => rfl, Or.inr ⟨by omega, by first | omega | (simp only [next_more, next_put] at *; omega)⟩, ?_, by repeat first | assumption | refine Fr.more ?_ _ | refine Fr.put ?_ _ _⟩
      · simp only [c_seq, RUNA, Nat.reduceAdd, Nat.reduceMod, Nat.reduceDiv, Nat.reduceSub, Nat.reduceMul, Nat.reduceEqDiff, Nat.reduceBEq, Nat.reduceLeDiff, Int.reduceToNat, fillS, wantG, vBox, Value.cells, one, putAt, Option.getD_some, Option.map_some, Option.bind_some, ne_eq, Option.some.injEq, Prod.mk.injEq, exists_and_left, exists_eq_left', exists_eq_left, List.size_toArray, List.length_cons, List.length_nil, if_true, if_false, exists_eq', exists_const, List.getElem?_cons_zero, List.getElem?_cons_succ, List.map_toArray, List.map_cons, List.map_nil, beq_iff_eq, List.all_cons, List.all_nil, cond_true, List.set_cons_zero, List.set_cons_succ, List.drop_zero, List.drop_succ_cons, List.take_succ_cons, List.take_zero, List.getElem?_toArray, Option.map_none, Option.getD_none, k_tmp, k_val, List.append_toArray, List.nil_append, List.cons_append, mm_none, row_putm, z3, rb5]
      · have := hX5.next; first | omega | (simp only [next_more, next_put] at *; omega)
      · have := hX5.next; first | omega | (simp only [next_more, next_put] at *; omega)
      · first | omega | (simp only [next_more, next_put] at *; omega)
      · exact (((hX5.more 12).put (Or.inr (Or.inr (Or.inl rfl))) _)).more 7
end Go.Proofs.Ytlealdhgajomhaa
