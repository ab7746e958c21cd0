/- bdd.Valid: the walk. -/
import Derived.Test.YtlealdhgajomhaaBddP
namespace Go.Proofs.Ytlealdhgajomhaa
set_option linter.unusedVariables false
open Go.AI
set_option linter.unusedSimpArgs false

/-! ### the checks of one vertex -/
structure Gk (l : List Vtx) (n : Nat) : Prop where
  var : ∀ k, 2 ≤ k → k < n → 0 ≤ (vx l k).1 ∧ (vx l k).1 < 10
  lo : ∀ k : Nat, 2 ≤ k → k < n → 0 ≤ (vx l k).2.1 ∧ (vx l k).2.1 < (k : Int)
  hi : ∀ k : Nat, 2 ≤ k → k < n → 0 ≤ (vx l k).2.2 ∧ (vx l k).2.2 < (k : Int)
  ne : ∀ k, 2 ≤ k → k < n → (vx l k).2.1 ≠ (vx l k).2.2
  olo : ∀ k, 2 ≤ k → k < n → 1 < (vx l k).2.1 → (vx l k).1 < (vx l (vx l k).2.1.toNat).1
  ohi : ∀ k, 2 ≤ k → k < n → 1 < (vx l k).2.2 → (vx l k).1 < (vx l (vx l k).2.2.toNat).1
  uq : ∀ j k, 2 ≤ j → j < k → k < n → vx l j ≠ vx l k
theorem Gk.gd {l : List Vtx} (h : Gk l l.length) (h2 : 2 ≤ l.length) : Gd l := by
  refine ⟨h2, h.var, h.lo, h.hi, h.ne, h.olo, h.ohi, fun j k j1 j2 k1 k2 e => ?_⟩
  rcases Nat.lt_trichotomy j k with q | q | q
  · exact (h.uq j k j1 q k2 e).elim
  · exact q
  · exact (h.uq k j k1 q j2 e.symm).elim
theorem Gd.gk {l : List Vtx} (h : Gd l) : Gk l l.length :=
  ⟨h.var, h.lo, h.hi, h.ne, h.olo, h.ohi, fun j k j1 jk k2 e => by have := h.uq j k j1 (by omega) (by omega) k2 e; omega⟩
theorem Gk.two (l : List Vtx) : Gk l 2 := ⟨fun k _ _ => by omega, fun k _ _ => by omega, fun k _ _ => by omega, fun k _ _ => by omega, fun k _ _ => by omega, fun k _ _ => by omega, fun j k _ _ _ => by omega⟩
theorem Gk.mono {l : List Vtx} {n m : Nat} (h : Gk l n) (hm : m ≤ n) : Gk l m :=
  ⟨fun k a b => h.var k a (by omega), fun k a b => h.lo k a (by omega), fun k a b => h.hi k a (by omega), fun k a b => h.ne k a (by omega), fun k a b => h.olo k a (by omega), fun k a b => h.ohi k a (by omega), fun j k a b c => h.uq j k a b (by omega)⟩
/-- the first checks -/
def Ck1 (l : List Vtx) (k : Nat) : Prop := 0 ≤ (vx l k).1 ∧ (vx l k).1 < 10 ∧ 0 ≤ (vx l k).2.1 ∧ 0 ≤ (vx l k).2.2 ∧ (vx l k).2.1 < (k : Int) ∧ (vx l k).2.2 < (k : Int) ∧ (vx l k).2.1 ≠ (vx l k).2.2 ∧ ∀ j, 2 ≤ j → j < k → vx l j ≠ vx l k
def Ck2 (l : List Vtx) (k : Nat) : Prop := (1 < (vx l k).2.1 → (vx l k).1 < (vx l (vx l k).2.1.toNat).1) ∧ (1 < (vx l k).2.2 → (vx l k).1 < (vx l (vx l k).2.2.toNat).1)
theorem Gk.succ {l : List Vtx} {k : Nat} (h : Gk l k) (h1 : Ck1 l k) (h2 : Ck2 l k) : Gk l (k + 1) := by
  obtain ⟨a1, a2, a3, a4, a5, a6, a7, a8⟩ := h1
  obtain ⟨b1, b2⟩ := h2
  refine ⟨fun j j1 j2 => ?_, fun j j1 j2 => ?_, fun j j1 j2 => ?_, fun j j1 j2 => ?_, fun j j1 j2 => ?_, fun j j1 j2 => ?_, fun i j i1 ij j2 => ?_⟩ <;> by_cases e : j = k
  · subst e; exact ⟨a1, a2⟩
  · exact h.var j j1 (by omega)
  · subst e; exact ⟨a3, a5⟩
  · exact h.lo j j1 (by omega)
  · subst e; exact ⟨a4, a6⟩
  · exact h.hi j j1 (by omega)
  · subst e; exact a7
  · exact h.ne j j1 (by omega)
  · subst e; exact b1
  · exact h.olo j j1 (by omega)
  · subst e; exact b2
  · exact h.ohi j j1 (by omega)
  · subst e; exact a8 i i1 ij
  · exact h.uq i j i1 ij (by omega)
theorem Gk.ck1 {l : List Vtx} {k : Nat} (h : Gk l (k + 1)) (h2 : 2 ≤ k) : Ck1 l k :=
  ⟨(h.var k h2 (by omega)).1, (h.var k h2 (by omega)).2, (h.lo k h2 (by omega)).1, (h.hi k h2 (by omega)).1, (h.lo k h2 (by omega)).2, (h.hi k h2 (by omega)).2, h.ne k h2 (by omega), fun j j1 j2 => h.uq j k j1 j2 (by omega)⟩
theorem Gk.ck2 {l : List Vtx} {k : Nat} (h : Gk l (k + 1)) (h2 : 2 ≤ k) : Ck2 l k := ⟨h.olo k h2 (by omega), h.ohi k h2 (by omega)⟩

/-- the vertices from 2 to k -/
def seen (l : List Vtx) (k : Nat) : List Vtx := (l.take k).drop 2
theorem mem_seen {l : List Vtx} {k : Nat} (hk : k ≤ l.length) {v : Vtx} : v ∈ seen l k ↔ ∃ j, 2 ≤ j ∧ j < k ∧ vx l j = v := by
  unfold seen
  constructor
  · intro h
    obtain ⟨i, hi, rfl⟩ := List.getElem_of_mem h
    simp only [List.length_drop, List.length_take] at hi
    refine ⟨i + 2, by omega, by omega, ?_⟩
    rw [List.getElem_drop, List.getElem_take]
    have : i + 2 < l.length := by omega
    simp [vx, this, Nat.add_comm]
  · rintro ⟨j, h1, h2, rfl⟩
    have hj : j < l.length := by omega
    have : j - 2 < ((l.take k).drop 2).length := by simp; omega
    have e : ((l.take k).drop 2)[j - 2] = vx l j := by
      rw [List.getElem_drop, List.getElem_take]
      simp only [vx, List.getD_eq_getElem?_getD, show 2 + (j - 2) = j by omega, List.getElem?_eq_getElem hj, Option.getD_some]
    rw [← e]; exact List.getElem_mem _
def seenG (l : List Vtx) (k : Nat) : Vtx → Option Value := fun v => if v ∈ seen l k then some (.bool true) else none
theorem seenG_s {l : List Vtx} {k : Nat} (h2 : 2 ≤ k) (hk : k < l.length) : mset (seenG l k) (vx l k) (.bool true) = seenG l (k + 1) := by
  funext v
  unfold mset seenG
  have h1 := mem_seen (l := l) (k := k) (by omega) (v := v)
  have h3 := mem_seen (l := l) (k := k + 1) (by omega) (v := v)
  by_cases e : v = vx l k
  · rw [if_pos e, if_pos (h3.2 ⟨k, h2, by omega, e.symm⟩)]
  · rw [if_neg e]
    by_cases m : v ∈ seen l k
    · obtain ⟨j, j1, j2, j3⟩ := h1.1 m
      rw [if_pos m, if_pos (h3.2 ⟨j, j1, by omega, j3⟩)]
    · rw [if_neg m, if_neg (fun h => ?_)]
      obtain ⟨j, j1, j2, j3⟩ := h3.1 h
      by_cases ej : j = k
      · subst ej; exact e j3.symm
      · exact m (h1.2 ⟨j, j1, by omega, j3⟩)

/-! ### vertices as keys -/
def enc3 (v : Vtx) : Value := .agg #[.int .i64 v.1, .int .i64 v.2.1, .int .i64 v.2.2]
theorem ckV (b : Bool) (x y z : Int) : still Try.prog (Instr.checkKey b 10000 40 (.agg #[.int .i64 x, .int .i64 y, .int .i64 z])) = some () := by kernel_rfl
theorem keyV : Keyed Try.prog 40 enc3 := by
  refine ⟨fun k => rfl, fun b k => ckV b _ _ _, Or.inr ⟨_, Try.underlying40, fun a b => rfl, fun a b => ?_⟩, fun k => ?_⟩
  · exact eqf40 _ _ _ _ _ _
  · simp [enc3, Instr.sameBits]

theorem mkB' (N : Nat) (hN : N ≤ 1000000) (id : Nat) : vMake Try.prog 43 (.int .i64 N) (.int .i64 N) id = some (.slice (some ⟨id, 0, none⟩) N N, .cells ((tab N fun _ => false).map Value.bool) (rowMeta 1)) := by
  have h := mk_eq (P := Try.prog) (t := 43) (id := id) (n := N) Try.underlying43 if4 (by omega) (by omega) rfl rfl (by omega)
  rw [show (Value.cells (.bool false)).toList = [.bool false] from rfl, zeros_false, tab_zero] at h
  exact h
theorem bs58_2 (id : Nat) (a b : Int) : vBuildS Try.prog 58 2 #[(0, .int .i64 a), (1, .int .i64 b)] id = some (.slice (some ⟨id, 0, none⟩) 2 2, .cells [.int .i64 a, .int .i64 b] (rowMeta 1)) := by kernel_rfl
theorem slice_2 {σ : St} {id off n c : Nat} {row : List Value} {m : Mta} (h2 : 2 ≤ n) (hr : σ.row id = some (row, m3 m)) :
    ∃ sv, aslice Try.prog σ 23 (.slice (some ⟨id, off, none⟩) n c) (some (.int .i64 2)) none none = some sv ∧ alen Try.prog 23 sv = some (.int .i64 ((n - 2 : Nat) : Int)) ∧ (2 < n → ∃ c', sv = .slice (some ⟨id, off + 6, none⟩) (n - 2) c') := by
  by_cases h : 2 < n
  · obtain ⟨c', hc⟩ := slice_in (P := Try.prog) (σ := σ) (t := 23) (id := id) (off := off) (len := n) (c := c) (lo := some (.int .i64 2)) (hi := none) (l := some 2) (h := none) Try.underlying23 sz40 hr rfl rfl rfl (by simp) (by simp; omega) (by simp)
    refine ⟨_, hc, ?_, fun _ => ⟨c', ?_⟩⟩
    · rw [ln23]; simp
    · simp
  · obtain rfl : n = 2 := by omega
    have hz' : rowZ σ id 3 = true := by simp [rowZ, hr, nbeq]
    have hm0 : intOpt (none : Option Value) = some none := rfl
    have hl0 : intOpt (some (.int .i64 2)) = some (some 2) := rfl
    by_cases hc : c = 2
    · subst hc
      refine ⟨.slice (some ⟨id, off, none⟩) 0 0, ?_, by rw [ln23], fun h => by omega⟩
      simp [aslice, Try.underlying23, sz40, hl0, hm0, hz', nbeq]
    · refine ⟨emptyS, ?_, by unfold emptyS; rw [ln23], fun h => by omega⟩
      simp [aslice, Try.underlying23, sz40, hl0, hm0, hz', nbeq, hc]
theorem lkV {σ : St} {id : Nat} {l : List Vtx} {k : Nat} (h : MP enc3 σ id (seenG l k)) (v : Vtx) : alookup Try.prog σ 65 (.map (some id)) (.agg #[.int .i64 v.1, .int .i64 v.2.1, .int .i64 v.2.2]) false = some (.bool (decide (v ∈ seen l k))) := by
  by_cases hv : v ∈ seen l k
  · have := lookup_some keyV Try.underlying65 h (k := v) (v := .bool true) (by simp [seenG, hv]) false
    rw [decide_eq_true hv]; exact this
  · have := lookup_none keyV Try.underlying65 h (k := v) (by simp [seenG, hv]) (z := .bool false) (by kernel_rfl) rfl false
    rw [decide_eq_false hv]; exact this

set_option maxHeartbeats 4000000 in
theorem Valid_spec {σ : St} {a : Value} {d : List Vtx × Int} (ha : DV σ a d) (hl : d.1.length < 1000000) (hF : Fr σ) : wpc Try.prog 15 #[a] σ fun r σ' => (∃ b, r = .bool b ∧ (b = true ↔ ValidD d)) ∧ EX σ σ' := by
  obtain ⟨oa, ca, rfl, hA⟩ := ha.open
  obtain ⟨l, root⟩ := d
  simp only at hA hl ⊢
  refine body_go Try.func15 rfl ?_
  have hr := Try.results15
  have no : ∀ {p : Prop}, ¬ p → ((false : Bool) = true ↔ p) := fun h => ⟨(fun e => by cases e), fun e => (h e).elim⟩
  by_cases h2 : l.length < 2
  · have hd : decide ((l.length : Int) < 2) = true := by simp; omega
    simp only [c_seq, RUNA, Nat.reduceAdd, Nat.reduceMod, Nat.reduceDiv, Nat.reduceSub, Nat.reduceMul, Nat.reduceEqDiff, Nat.reduceBEq, Nat.reduceLeDiff, Int.reduceToNat, fillS, wantG, vBox, Value.cells, one, putAt, Option.getD_some, Option.map_some, Option.bind_some, ne_eq, Option.some.injEq, Prod.mk.injEq, exists_and_left, exists_eq_left', exists_eq_left, List.size_toArray, List.length_cons, List.length_nil, if_true, if_false, exists_eq', exists_const, List.getElem?_cons_zero, List.getElem?_cons_succ, List.map_toArray, List.map_cons, List.map_nil, beq_iff_eq, List.all_cons, List.all_nil, cond_true, List.set_cons_zero, List.set_cons_succ, List.drop_zero, List.drop_succ_cons, List.take_succ_cons, List.take_zero, List.getElem?_toArray, Option.map_none, Option.getD_none, TYA, hr, hd]
    refine ⟨⟨false, rfl, no fun h => by have := h.1.len; simp only at this; omega⟩, ?_⟩
    repeat first | assumption | exact EXn.refl _ _ | refine EXn.more ?_ _ | refine EXn.put ?_ (by omega) _ | refine EX.trans ?_ (by assumption)
  have hd0 : decide ((l.length : Int) < 2) = false := by simp; omega
  obtain ⟨aid, aoff, arow, am, rfl, a1, a2, a3⟩ := hA (by omega)
  have cut0 := row_cut a3 (i := 0) (by omega)
  have cut1 := row_cut a3 (i := 1) (by omega)
  simp only [Nat.zero_mul, Nat.add_zero, Nat.one_mul] at cut0 cut1
  have z0 : (0 : Int) ≤ 0 := by omega
  have z1 : (0 : Int) < (l.length : Int) := by omega
  have z2 : (0 : Int) ≤ 1 := by omega
  have z3 : (1 : Int) < (l.length : Int) := by omega
  have na : ¬ aid = σ.next := by omega
  by_cases h0 : ¬ vx l 0 = (-1, 0, 0)
  · have v0 : veq (vx l 0).1 (vx l 0).2.1 (vx l 0).2.2 (-1) 0 0 = false := veq_f h0
    simp only [c_seq, RUNA, Nat.reduceAdd, Nat.reduceMod, Nat.reduceDiv, Nat.reduceSub, Nat.reduceMul, Nat.reduceEqDiff, Nat.reduceBEq, Nat.reduceLeDiff, Int.reduceToNat, fillS, wantG, vBox, Value.cells, one, putAt, Option.getD_some, Option.map_some, Option.bind_some, ne_eq, Option.some.injEq, Prod.mk.injEq, exists_and_left, exists_eq_left', exists_eq_left, List.size_toArray, List.length_cons, List.length_nil, if_true, if_false, exists_eq', exists_const, List.getElem?_cons_zero, List.getElem?_cons_succ, List.map_toArray, List.map_cons, List.map_nil, beq_iff_eq, List.all_cons, List.all_nil, cond_true, List.set_cons_zero, List.set_cons_succ, List.drop_zero, List.drop_succ_cons, List.take_succ_cons, List.take_zero, List.getElem?_toArray, Option.map_none, Option.getD_none, TYA, hr, hd0, ia23 z0 z1, bd40, bd40_1, neq40, a2, na, cut0, v0]
    refine ⟨⟨false, rfl, no fun h => h0 h.2.1⟩, ?_⟩
    repeat first | assumption | exact EXn.refl _ _ | refine EXn.more ?_ _ | refine EXn.put ?_ (by omega) _ | refine EX.trans ?_ (by assumption)
  rw [Classical.not_not] at h0
  have v0 : veq (vx l 0).1 (vx l 0).2.1 (vx l 0).2.2 (-1) 0 0 = true := veq_t h0
  by_cases h1 : ¬ vx l 1 = (-1, 1, 1)
  · have v1 : veq (vx l 1).1 (vx l 1).2.1 (vx l 1).2.2 (-1) 1 1 = false := veq_f h1
    simp only [c_seq, RUNA, Nat.reduceAdd, Nat.reduceMod, Nat.reduceDiv, Nat.reduceSub, Nat.reduceMul, Nat.reduceEqDiff, Nat.reduceBEq, Nat.reduceLeDiff, Int.reduceToNat, fillS, wantG, vBox, Value.cells, one, putAt, Option.getD_some, Option.map_some, Option.bind_some, ne_eq, Option.some.injEq, Prod.mk.injEq, exists_and_left, exists_eq_left', exists_eq_left, List.size_toArray, List.length_cons, List.length_nil, if_true, if_false, exists_eq', exists_const, List.getElem?_cons_zero, List.getElem?_cons_succ, List.map_toArray, List.map_cons, List.map_nil, beq_iff_eq, List.all_cons, List.all_nil, cond_true, List.set_cons_zero, List.set_cons_succ, List.drop_zero, List.drop_succ_cons, List.take_succ_cons, List.take_zero, List.getElem?_toArray, Option.map_none, Option.getD_none, TYA, hr, hd0, ia23 z0 z1, ia23 z2 z3, bd40, bd40_1, neq40, a2, na, cut0, cut1, v0, v1]
    refine ⟨⟨false, rfl, no fun h => h1 h.2.2.1⟩, ?_⟩
    repeat first | assumption | exact EXn.refl _ _ | refine EXn.more ?_ _ | refine EXn.put ?_ (by omega) _ | refine EX.trans ?_ (by assumption)
  rw [Classical.not_not] at h1
  have v1 : veq (vx l 1).1 (vx l 1).2.1 (vx l 1).2.2 (-1) 1 1 = true := veq_t h1
  simp only [c_seq, RUNA, Nat.reduceAdd, Nat.reduceMod, Nat.reduceDiv, Nat.reduceSub, Nat.reduceMul, Nat.reduceEqDiff, Nat.reduceBEq, Nat.reduceLeDiff, Int.reduceToNat, fillS, wantG, vBox, Value.cells, one, putAt, Option.getD_some, Option.map_some, Option.bind_some, ne_eq, Option.some.injEq, Prod.mk.injEq, exists_and_left, exists_eq_left', exists_eq_left, List.size_toArray, List.length_cons, List.length_nil, if_true, if_false, exists_eq', exists_const, List.getElem?_cons_zero, List.getElem?_cons_succ, List.map_toArray, List.map_cons, List.map_nil, beq_iff_eq, List.all_cons, List.all_nil, cond_true, List.set_cons_zero, List.set_cons_succ, List.drop_zero, List.drop_succ_cons, List.take_succ_cons, List.take_zero, List.getElem?_toArray, Option.map_none, Option.getD_none, TYA, hr, hd0, ia23 z0 z1, ia23 z2 z3, bd40, bd40_1, neq40, a2, na, cut0, cut1, v0, v1]
  obtain ⟨sv, sl1, sl2, sl3⟩ := slice_2 (c := ca) (n := l.length) (off := aoff) (by omega) a2
  have sl1' : ∀ τ : St, τ.row aid = some (arow, m3 am) → aslice Try.prog τ 23 (.slice (some ⟨aid, aoff, none⟩) l.length ca) (some (.int .i64 2)) none none = some sv := by
    intro τ hτ
    rw [← sl1]; unfold aslice rowZ; simp only [hτ, a2]
  have na2 : ¬ aid = σ.next + 24 := by omega
  have hsl := sl1' ((((((σ.more 2).put σ.next (AObj.cells [Value.slice (some { block := aid, off := aoff }) l.length ca, Value.int IntKind.i64 root] boxMeta)).more 4).more 18).more 2).put (σ.next + 24) (AObj.map []) |>.more 5) (by simp only [c_seq, RUNA, Nat.reduceAdd, Nat.reduceMod, Nat.reduceDiv, Nat.reduceSub, Nat.reduceMul, Nat.reduceEqDiff, Nat.reduceBEq, Nat.reduceLeDiff, Int.reduceToNat, fillS, wantG, vBox, Value.cells, one, putAt, Option.getD_some, Option.map_some, Option.bind_some, ne_eq, Option.some.injEq, Prod.mk.injEq, exists_and_left, exists_eq_left', exists_eq_left, List.size_toArray, List.length_cons, List.length_nil, if_true, if_false, exists_eq', exists_const, List.getElem?_cons_zero, List.getElem?_cons_succ, List.map_toArray, List.map_cons, List.map_nil, beq_iff_eq, List.all_cons, List.all_nil, cond_true, List.set_cons_zero, List.set_cons_succ, List.drop_zero, List.drop_succ_cons, List.take_succ_cons, List.take_zero, List.getElem?_toArray, Option.map_none, Option.getD_none, k_tmp, k_val, List.append_toArray, List.nil_append, List.cons_append, mm_none, row_putm, na, na2, a2])
  simp only [c_seq, RUNA, Nat.reduceAdd, Nat.reduceMod, Nat.reduceDiv, Nat.reduceSub, Nat.reduceMul, Nat.reduceEqDiff, Nat.reduceBEq, Nat.reduceLeDiff, Int.reduceToNat, fillS, wantG, vBox, Value.cells, one, putAt, Option.getD_some, Option.map_some, Option.bind_some, ne_eq, Option.some.injEq, Prod.mk.injEq, exists_and_left, exists_eq_left', exists_eq_left, List.size_toArray, List.length_cons, List.length_nil, if_true, if_false, exists_eq', exists_const, List.getElem?_cons_zero, List.getElem?_cons_succ, List.map_toArray, List.map_cons, List.map_nil, beq_iff_eq, List.all_cons, List.all_nil, cond_true, List.set_cons_zero, List.set_cons_succ, List.drop_zero, List.drop_succ_cons, List.take_succ_cons, List.take_zero, List.getElem?_toArray, Option.map_none, Option.getD_none, TYA, k_tmp, k_val, List.append_toArray, List.nil_append, List.cons_append, mm_none, row_putm, hsl, sl2]
  refine loop_go (fun m S τ => S.at 1 = .pointer (some ⟨σ.next, 0, none⟩) ∧ S.at 3 = .int .i64 l.length ∧ S.at 4 = .map (some (σ.next + 24)) ∧ S.at 37 = sv ∧ S.at 38 = .int .i64 ((l.length - 2 : Nat) : Int) ∧ EX σ τ ∧ σ.next + 24 < τ.next ∧
    τ.row σ.next = some ([.slice (some ⟨aid, aoff, none⟩) l.length ca, .int .i64 root], boxMeta) ∧
    ∃ k : Nat, S.at 39 = .int .i64 ((k - 2 : Nat) : Int) ∧ 2 ≤ k ∧ k ≤ l.length ∧ m = l.length - k ∧ Gk l k ∧ MP enc3 τ (σ.next + 24) (seenG l k)) (l.length - 2) ?_ ?_
  · simp only [c_seq, RUNA, Nat.reduceAdd, Nat.reduceMod, Nat.reduceDiv, Nat.reduceSub, Nat.reduceMul, Nat.reduceEqDiff, Nat.reduceBEq, Nat.reduceLeDiff, Int.reduceToNat, fillS, wantG, vBox, Value.cells, one, putAt, Option.getD_some, Option.map_some, Option.bind_some, ne_eq, Option.some.injEq, Prod.mk.injEq, exists_and_left, exists_eq_left', exists_eq_left, List.size_toArray, List.length_cons, List.length_nil, if_true, if_false, exists_eq', exists_const, List.getElem?_cons_zero, List.getElem?_cons_succ, List.map_toArray, List.map_cons, List.map_nil, beq_iff_eq, List.all_cons, List.all_nil, cond_true, List.set_cons_zero, List.set_cons_succ, List.drop_zero, List.drop_succ_cons, List.take_succ_cons, List.take_zero, List.getElem?_toArray, Option.map_none, Option.getD_none, k_tmp, k_val, List.append_toArray, List.nil_append, List.cons_append, mm_none, row_putm, na]
    refine ⟨?_, by omega, 2, rfl, by omega, by omega, rfl, Gk.two l, ?_⟩
    · repeat first | assumption | exact EXn.refl _ _ | refine EXn.more ?_ _ | refine EXn.put ?_ (by omega) _ | refine EX.trans ?_ (by assumption)
    · have : seenG l 2 = fun _ => none := by
        funext v; unfold seenG; rw [if_neg]; unfold seen; simp
      rw [this]
      exact MP.new (by simp only [c_seq, RUNA, Nat.reduceAdd, Nat.reduceMod, Nat.reduceDiv, Nat.reduceSub, Nat.reduceMul, Nat.reduceEqDiff, Nat.reduceBEq, Nat.reduceLeDiff, Int.reduceToNat, fillS, wantG, vBox, Value.cells, one, putAt, Option.getD_some, Option.map_some, Option.bind_some, ne_eq, Option.some.injEq, Prod.mk.injEq, exists_and_left, exists_eq_left', exists_eq_left, List.size_toArray, List.length_cons, List.length_nil, if_true, if_false, exists_eq', exists_const, List.getElem?_cons_zero, List.getElem?_cons_succ, List.map_toArray, List.map_cons, List.map_nil, beq_iff_eq, List.all_cons, List.all_nil, cond_true, List.set_cons_zero, List.set_cons_succ, List.drop_zero, List.drop_succ_cons, List.take_succ_cons, List.take_zero, List.getElem?_toArray, Option.map_none, Option.getD_none])
  rintro _ S τ ⟨s1, s3, s4, s37, s38, hE, hx, r0, k, s39, k2, kl, rfl, hG, hM⟩
  have hn := hE.next
  have ra := (hE.row aid a1).trans a2
  by_cases hlt : k < l.length
  · have hd : decide (((k - 2 : Nat) : Int) < ((l.length - 2 : Nat) : Int)) = true := by simp; omega
    have hk2 : IntKind.i64.wrap (((k - 2 : Nat) : Int) + 2) = (k : Int) := by rw [wrap64 (by omega) (by omega)]; omega
    obtain ⟨c', rfl⟩ := sl3 (by omega)
    have y0 : (0 : Int) ≤ ((k - 2 : Nat) : Int) := by omega
    have y1 : ((k - 2 : Nat) : Int) < ((l.length - 2 : Nat) : Int) := by omega
    have ck : cut arow (aoff + (6 + (k - 2) * 3)) 3 = some [.int .i64 (vx l k).1, .int .i64 (vx l k).2.1, .int .i64 (vx l k).2.2] := by
      have := row_cut a3 hlt
      rw [show aoff + (6 + (k - 2) * 3) = aoff + k * 3 by omega]; exact this
    have bad : ¬ (Ck1 l k ∧ Ck2 l k) → ∀ τ', EX σ τ' → (∃ b, (Value.bool false) = .bool b ∧ (b = true ↔ ValidD (l, root))) ∧ EX σ τ' := by
      intro h τ' e
      refine ⟨⟨false, rfl, no fun hv => h ?_⟩, e⟩
      have := (hv.1.gk).mono (m := k + 1) (by simp only; omega)
      exact ⟨this.ck1 k2, this.ck2 k2⟩
    by_cases q1 : (vx l k).1 < 0
    · have c1 : decide ((vx l k).1 < 0) = true := decide_eq_true q1
      simp only [c_seq, RUNA, Nat.reduceAdd, Nat.reduceMod, Nat.reduceDiv, Nat.reduceSub, Nat.reduceMul, Nat.reduceEqDiff, Nat.reduceBEq, Nat.reduceLeDiff, Int.reduceToNat, fillS, wantG, vBox, Value.cells, one, putAt, Option.getD_some, Option.map_some, Option.bind_some, ne_eq, Option.some.injEq, Prod.mk.injEq, exists_and_left, exists_eq_left', exists_eq_left, List.size_toArray, List.length_cons, List.length_nil, if_true, if_false, exists_eq', exists_const, List.getElem?_cons_zero, List.getElem?_cons_succ, List.map_toArray, List.map_cons, List.map_nil, beq_iff_eq, List.all_cons, List.all_nil, cond_true, List.set_cons_zero, List.set_cons_succ, List.drop_zero, List.drop_succ_cons, List.take_succ_cons, List.take_zero, List.getElem?_toArray, Option.map_none, Option.getD_none, TYA, k_tmp, k_val, List.append_toArray, List.nil_append, List.cons_append, mm_none, row_putm, s1, s3, s4, s37, s38, s39, hd, hk2, ia23 y0 y1, ra, ck, r0, hr, c1]
      refine bad (fun h => by have := h.1.1; omega) _ ?_
      repeat first | assumption | exact EXn.refl _ _ | refine EXn.more ?_ _ | refine EXn.put ?_ (by omega) _ | refine EX.trans ?_ (by assumption)
    have c1 : decide ((vx l k).1 < 0) = false := decide_eq_false q1
    by_cases q2 : 10 ≤ (vx l k).1
    · have c2 : decide (10 ≤ (vx l k).1) = true := decide_eq_true q2
      simp only [c_seq, RUNA, Nat.reduceAdd, Nat.reduceMod, Nat.reduceDiv, Nat.reduceSub, Nat.reduceMul, Nat.reduceEqDiff, Nat.reduceBEq, Nat.reduceLeDiff, Int.reduceToNat, fillS, wantG, vBox, Value.cells, one, putAt, Option.getD_some, Option.map_some, Option.bind_some, ne_eq, Option.some.injEq, Prod.mk.injEq, exists_and_left, exists_eq_left', exists_eq_left, List.size_toArray, List.length_cons, List.length_nil, if_true, if_false, exists_eq', exists_const, List.getElem?_cons_zero, List.getElem?_cons_succ, List.map_toArray, List.map_cons, List.map_nil, beq_iff_eq, List.all_cons, List.all_nil, cond_true, List.set_cons_zero, List.set_cons_succ, List.drop_zero, List.drop_succ_cons, List.take_succ_cons, List.take_zero, List.getElem?_toArray, Option.map_none, Option.getD_none, TYA, k_tmp, k_val, List.append_toArray, List.nil_append, List.cons_append, mm_none, row_putm, s1, s3, s4, s37, s38, s39, hd, hk2, ia23 y0 y1, ra, ck, r0, hr, c1, c2]
      refine bad (fun h => by have := h.1.2.1; omega) _ ?_
      repeat first | assumption | exact EXn.refl _ _ | refine EXn.more ?_ _ | refine EXn.put ?_ (by omega) _ | refine EX.trans ?_ (by assumption)
    have c2 : decide (10 ≤ (vx l k).1) = false := decide_eq_false q2
    by_cases q3 : (vx l k).2.1 < 0
    · have c3 : decide ((vx l k).2.1 < 0) = true := decide_eq_true q3
      simp only [c_seq, RUNA, Nat.reduceAdd, Nat.reduceMod, Nat.reduceDiv, Nat.reduceSub, Nat.reduceMul, Nat.reduceEqDiff, Nat.reduceBEq, Nat.reduceLeDiff, Int.reduceToNat, fillS, wantG, vBox, Value.cells, one, putAt, Option.getD_some, Option.map_some, Option.bind_some, ne_eq, Option.some.injEq, Prod.mk.injEq, exists_and_left, exists_eq_left', exists_eq_left, List.size_toArray, List.length_cons, List.length_nil, if_true, if_false, exists_eq', exists_const, List.getElem?_cons_zero, List.getElem?_cons_succ, List.map_toArray, List.map_cons, List.map_nil, beq_iff_eq, List.all_cons, List.all_nil, cond_true, List.set_cons_zero, List.set_cons_succ, List.drop_zero, List.drop_succ_cons, List.take_succ_cons, List.take_zero, List.getElem?_toArray, Option.map_none, Option.getD_none, TYA, k_tmp, k_val, List.append_toArray, List.nil_append, List.cons_append, mm_none, row_putm, s1, s3, s4, s37, s38, s39, hd, hk2, ia23 y0 y1, ra, ck, r0, hr, c1, c2, c3]
      refine bad (fun h => by have := h.1.2.2.1; omega) _ ?_
      repeat first | assumption | exact EXn.refl _ _ | refine EXn.more ?_ _ | refine EXn.put ?_ (by omega) _ | refine EX.trans ?_ (by assumption)
    have c3 : decide ((vx l k).2.1 < 0) = false := decide_eq_false q3
    by_cases q4 : (vx l k).2.2 < 0
    · have c4 : decide ((vx l k).2.2 < 0) = true := decide_eq_true q4
      simp only [c_seq, RUNA, Nat.reduceAdd, Nat.reduceMod, Nat.reduceDiv, Nat.reduceSub, Nat.reduceMul, Nat.reduceEqDiff, Nat.reduceBEq, Nat.reduceLeDiff, Int.reduceToNat, fillS, wantG, vBox, Value.cells, one, putAt, Option.getD_some, Option.map_some, Option.bind_some, ne_eq, Option.some.injEq, Prod.mk.injEq, exists_and_left, exists_eq_left', exists_eq_left, List.size_toArray, List.length_cons, List.length_nil, if_true, if_false, exists_eq', exists_const, List.getElem?_cons_zero, List.getElem?_cons_succ, List.map_toArray, List.map_cons, List.map_nil, beq_iff_eq, List.all_cons, List.all_nil, cond_true, List.set_cons_zero, List.set_cons_succ, List.drop_zero, List.drop_succ_cons, List.take_succ_cons, List.take_zero, List.getElem?_toArray, Option.map_none, Option.getD_none, TYA, k_tmp, k_val, List.append_toArray, List.nil_append, List.cons_append, mm_none, row_putm, s1, s3, s4, s37, s38, s39, hd, hk2, ia23 y0 y1, ra, ck, r0, hr, c1, c2, c3, c4]
      refine bad (fun h => by have := h.1.2.2.2.1; omega) _ ?_
      repeat first | assumption | exact EXn.refl _ _ | refine EXn.more ?_ _ | refine EXn.put ?_ (by omega) _ | refine EX.trans ?_ (by assumption)
    have c4 : decide ((vx l k).2.2 < 0) = false := decide_eq_false q4
    by_cases q5 : (k : Int) ≤ (vx l k).2.1
    · have c5 : decide ((k : Int) ≤ (vx l k).2.1) = true := decide_eq_true q5
      simp only [c_seq, RUNA, Nat.reduceAdd, Nat.reduceMod, Nat.reduceDiv, Nat.reduceSub, Nat.reduceMul, Nat.reduceEqDiff, Nat.reduceBEq, Nat.reduceLeDiff, Int.reduceToNat, fillS, wantG, vBox, Value.cells, one, putAt, Option.getD_some, Option.map_some, Option.bind_some, ne_eq, Option.some.injEq, Prod.mk.injEq, exists_and_left, exists_eq_left', exists_eq_left, List.size_toArray, List.length_cons, List.length_nil, if_true, if_false, exists_eq', exists_const, List.getElem?_cons_zero, List.getElem?_cons_succ, List.map_toArray, List.map_cons, List.map_nil, beq_iff_eq, List.all_cons, List.all_nil, cond_true, List.set_cons_zero, List.set_cons_succ, List.drop_zero, List.drop_succ_cons, List.take_succ_cons, List.take_zero, List.getElem?_toArray, Option.map_none, Option.getD_none, TYA, k_tmp, k_val, List.append_toArray, List.nil_append, List.cons_append, mm_none, row_putm, s1, s3, s4, s37, s38, s39, hd, hk2, ia23 y0 y1, ra, ck, r0, hr, c1, c2, c3, c4, c5]
      refine bad (fun h => by have := h.1.2.2.2.2.1; omega) _ ?_
      repeat first | assumption | exact EXn.refl _ _ | refine EXn.more ?_ _ | refine EXn.put ?_ (by omega) _ | refine EX.trans ?_ (by assumption)
    have c5 : decide ((k : Int) ≤ (vx l k).2.1) = false := decide_eq_false q5
    by_cases q6 : (k : Int) ≤ (vx l k).2.2
    · have c6 : decide ((k : Int) ≤ (vx l k).2.2) = true := decide_eq_true q6
      simp only [c_seq, RUNA, Nat.reduceAdd, Nat.reduceMod, Nat.reduceDiv, Nat.reduceSub, Nat.reduceMul, Nat.reduceEqDiff, Nat.reduceBEq, Nat.reduceLeDiff, Int.reduceToNat, fillS, wantG, vBox, Value.cells, one, putAt, Option.getD_some, Option.map_some, Option.bind_some, ne_eq, Option.some.injEq, Prod.mk.injEq, exists_and_left, exists_eq_left', exists_eq_left, List.size_toArray, List.length_cons, List.length_nil, if_true, if_false, exists_eq', exists_const, List.getElem?_cons_zero, List.getElem?_cons_succ, List.map_toArray, List.map_cons, List.map_nil, beq_iff_eq, List.all_cons, List.all_nil, cond_true, List.set_cons_zero, List.set_cons_succ, List.drop_zero, List.drop_succ_cons, List.take_succ_cons, List.take_zero, List.getElem?_toArray, Option.map_none, Option.getD_none, TYA, k_tmp, k_val, List.append_toArray, List.nil_append, List.cons_append, mm_none, row_putm, s1, s3, s4, s37, s38, s39, hd, hk2, ia23 y0 y1, ra, ck, r0, hr, c1, c2, c3, c4, c5, c6]
      refine bad (fun h => by have := h.1.2.2.2.2.2.1; omega) _ ?_
      repeat first | assumption | exact EXn.refl _ _ | refine EXn.more ?_ _ | refine EXn.put ?_ (by omega) _ | refine EX.trans ?_ (by assumption)
    have c6 : decide ((k : Int) ≤ (vx l k).2.2) = false := decide_eq_false q6
    by_cases q7 : (vx l k).2.1 = (vx l k).2.2
    · have c7 : ((vx l k).2.1 == (vx l k).2.2) = true := by simp [q7]
      simp only [c_seq, RUNA, Nat.reduceAdd, Nat.reduceMod, Nat.reduceDiv, Nat.reduceSub, Nat.reduceMul, Nat.reduceEqDiff, Nat.reduceBEq, Nat.reduceLeDiff, Int.reduceToNat, fillS, wantG, vBox, Value.cells, one, putAt, Option.getD_some, Option.map_some, Option.bind_some, ne_eq, Option.some.injEq, Prod.mk.injEq, exists_and_left, exists_eq_left', exists_eq_left, List.size_toArray, List.length_cons, List.length_nil, if_true, if_false, exists_eq', exists_const, List.getElem?_cons_zero, List.getElem?_cons_succ, List.map_toArray, List.map_cons, List.map_nil, beq_iff_eq, List.all_cons, List.all_nil, cond_true, List.set_cons_zero, List.set_cons_succ, List.drop_zero, List.drop_succ_cons, List.take_succ_cons, List.take_zero, List.getElem?_toArray, Option.map_none, Option.getD_none, TYA, k_tmp, k_val, List.append_toArray, List.nil_append, List.cons_append, mm_none, row_putm, s1, s3, s4, s37, s38, s39, hd, hk2, ia23 y0 y1, ra, ck, r0, hr, c1, c2, c3, c4, c5, c6, c7]
      refine bad (fun h => h.1.2.2.2.2.2.2.1 q7) _ ?_
      repeat first | assumption | exact EXn.refl _ _ | refine EXn.more ?_ _ | refine EXn.put ?_ (by omega) _ | refine EX.trans ?_ (by assumption)
    have c7 : ((vx l k).2.1 == (vx l k).2.2) = false := by simp [q7]
    simp only [c_seq, RUNA, Nat.reduceAdd, Nat.reduceMod, Nat.reduceDiv, Nat.reduceSub, Nat.reduceMul, Nat.reduceEqDiff, Nat.reduceBEq, Nat.reduceLeDiff, Int.reduceToNat, fillS, wantG, vBox, Value.cells, one, putAt, Option.getD_some, Option.map_some, Option.bind_some, ne_eq, Option.some.injEq, Prod.mk.injEq, exists_and_left, exists_eq_left', exists_eq_left, List.size_toArray, List.length_cons, List.length_nil, if_true, if_false, exists_eq', exists_const, List.getElem?_cons_zero, List.getElem?_cons_succ, List.map_toArray, List.map_cons, List.map_nil, beq_iff_eq, List.all_cons, List.all_nil, cond_true, List.set_cons_zero, List.set_cons_succ, List.drop_zero, List.drop_succ_cons, List.take_succ_cons, List.take_zero, List.getElem?_toArray, Option.map_none, Option.getD_none, TYA, k_tmp, k_val, List.append_toArray, List.nil_append, List.cons_append, mm_none, row_putm, s1, s3, s4, s37, s38, s39, hd, hk2, ia23 y0 y1, ra, ck, r0, hr, c1, c2, c3, c4, c5, c6, c7]
    have e4 : ¬ σ.next + 24 = τ.next + 4 := by omega
    have e5 : ¬ σ.next = τ.next + 4 := by omega
    have e6 : ¬ aid = τ.next + 4 := by omega
    refine ex1_of ((lk_get (τ := τ) ?_).trans (lkV hM (vx l k))) ?_
    · simp only [c_seq, RUNA, Nat.reduceAdd, Nat.reduceMod, Nat.reduceDiv, Nat.reduceSub, Nat.reduceMul, Nat.reduceEqDiff, Nat.reduceBEq, Nat.reduceLeDiff, Int.reduceToNat, fillS, wantG, vBox, Value.cells, one, putAt, Option.getD_some, Option.map_some, Option.bind_some, ne_eq, Option.some.injEq, Prod.mk.injEq, exists_and_left, exists_eq_left', exists_eq_left, List.size_toArray, List.length_cons, List.length_nil, if_true, if_false, exists_eq', exists_const, List.getElem?_cons_zero, List.getElem?_cons_succ, List.map_toArray, List.map_cons, List.map_nil, beq_iff_eq, List.all_cons, List.all_nil, cond_true, List.set_cons_zero, List.set_cons_succ, List.drop_zero, List.drop_succ_cons, List.take_succ_cons, List.take_zero, List.getElem?_toArray, Option.map_none, Option.getD_none, e4]
    by_cases q8 : vx l k ∈ seen l k
    · rw [decide_eq_true q8]
      simp only [c_seq, RUNA, Nat.reduceAdd, Nat.reduceMod, Nat.reduceDiv, Nat.reduceSub, Nat.reduceMul, Nat.reduceEqDiff, Nat.reduceBEq, Nat.reduceLeDiff, Int.reduceToNat, fillS, wantG, vBox, Value.cells, one, putAt, Option.getD_some, Option.map_some, Option.bind_some, ne_eq, Option.some.injEq, Prod.mk.injEq, exists_and_left, exists_eq_left', exists_eq_left, List.size_toArray, List.length_cons, List.length_nil, if_true, if_false, exists_eq', exists_const, List.getElem?_cons_zero, List.getElem?_cons_succ, List.map_toArray, List.map_cons, List.map_nil, beq_iff_eq, List.all_cons, List.all_nil, cond_true, List.set_cons_zero, List.set_cons_succ, List.drop_zero, List.drop_succ_cons, List.take_succ_cons, List.take_zero, List.getElem?_toArray, Option.map_none, Option.getD_none, TYA, k_tmp, k_val, List.append_toArray, List.nil_append, List.cons_append, mm_none, row_putm, hr]
      refine bad (fun h => ?_) _ ?_
      · obtain ⟨j, j1, j2, j3⟩ := (mem_seen (by omega)).1 q8
        exact h.1.2.2.2.2.2.2.2 j j1 j2 j3
      · repeat first | assumption | exact EXn.refl _ _ | refine EXn.more ?_ _ | refine EXn.put ?_ (by omega) _ | refine EX.trans ?_ (by assumption)
    rw [decide_eq_false q8]
    have hC1 : Ck1 l k := ⟨by omega, by omega, by omega, by omega, by omega, by omega, q7, fun j j1 j2 j3 => q8 ((mem_seen (by omega)).2 ⟨j, j1, j2, j3⟩)⟩
    simp only [c_seq, RUNA, Nat.reduceAdd, Nat.reduceMod, Nat.reduceDiv, Nat.reduceSub, Nat.reduceMul, Nat.reduceEqDiff, Nat.reduceBEq, Nat.reduceLeDiff, Int.reduceToNat, fillS, wantG, vBox, Value.cells, one, putAt, Option.getD_some, Option.map_some, Option.bind_some, ne_eq, Option.some.injEq, Prod.mk.injEq, exists_and_left, exists_eq_left', exists_eq_left, List.size_toArray, List.length_cons, List.length_nil, if_true, if_false, exists_eq', exists_const, List.getElem?_cons_zero, List.getElem?_cons_succ, List.map_toArray, List.map_cons, List.map_nil, beq_iff_eq, List.all_cons, List.all_nil, cond_true, List.set_cons_zero, List.set_cons_succ, List.drop_zero, List.drop_succ_cons, List.take_succ_cons, List.take_zero, List.getElem?_toArray, Option.map_none, Option.getD_none, TYA, k_tmp, k_val, List.append_toArray, List.nil_append, List.cons_append, mm_none, row_putm, s4]
    refine update_ex keyV Try.underlying65 hM ?_ (k := vx l k) rfl ?_
    · simp only [c_seq, RUNA, Nat.reduceAdd, Nat.reduceMod, Nat.reduceDiv, Nat.reduceSub, Nat.reduceMul, Nat.reduceEqDiff, Nat.reduceBEq, Nat.reduceLeDiff, Int.reduceToNat, fillS, wantG, vBox, Value.cells, one, putAt, Option.getD_some, Option.map_some, Option.bind_some, ne_eq, Option.some.injEq, Prod.mk.injEq, exists_and_left, exists_eq_left', exists_eq_left, List.size_toArray, List.length_cons, List.length_nil, if_true, if_false, exists_eq', exists_const, List.getElem?_cons_zero, List.getElem?_cons_succ, List.map_toArray, List.map_cons, List.map_nil, beq_iff_eq, List.all_cons, List.all_nil, cond_true, List.set_cons_zero, List.set_cons_succ, List.drop_zero, List.drop_succ_cons, List.take_succ_cons, List.take_zero, List.getElem?_toArray, Option.map_none, Option.getD_none, e4]
    intro es' hM'
    rw [seenG_s k2 hlt] at hM'
    have e7 : ¬ τ.next + 4 = σ.next + 24 := by omega
    have e8 : ¬ σ.next = σ.next + 24 := by omega
    have e9 : ¬ aid = σ.next + 24 := by omega
    simp only [c_seq, RUNA, Nat.reduceAdd, Nat.reduceMod, Nat.reduceDiv, Nat.reduceSub, Nat.reduceMul, Nat.reduceEqDiff, Nat.reduceBEq, Nat.reduceLeDiff, Int.reduceToNat, fillS, wantG, vBox, Value.cells, one, putAt, Option.getD_some, Option.map_some, Option.bind_some, ne_eq, Option.some.injEq, Prod.mk.injEq, exists_and_left, exists_eq_left', exists_eq_left, List.size_toArray, List.length_cons, List.length_nil, if_true, if_false, exists_eq', exists_const, List.getElem?_cons_zero, List.getElem?_cons_succ, List.map_toArray, List.map_cons, List.map_nil, beq_iff_eq, List.all_cons, List.all_nil, cond_true, List.set_cons_zero, List.set_cons_succ, List.drop_zero, List.drop_succ_cons, List.take_succ_cons, List.take_zero, List.getElem?_toArray, Option.map_none, Option.getD_none, TYA, k_tmp, k_val, List.append_toArray, List.nil_append, List.cons_append, mm_none, row_putm, e7, bs58_2]
    have hl2 : ∀ j, j < 2 → (([Value.int .i64 (vx l k).2.1, Value.int .i64 (vx l k).2.2] : List Value))[j]? = some (.int .i64 (if j = 0 then (vx l k).2.1 else (vx l k).2.2)) := by
      intro j hj
      obtain rfl | rfl : j = 0 ∨ j = 1 := by omega
      · rfl
      · rfl
    refine loop_go (fun m S τ' => S.at 1 = .pointer (some ⟨σ.next, 0, none⟩) ∧ S.at 3 = .int .i64 l.length ∧ S.at 4 = .map (some (σ.next + 24)) ∧ S.at 37 = .slice (some ⟨aid, aoff + 6, none⟩) (l.length - 2) c' ∧ S.at 38 = .int .i64 ((l.length - 2 : Nat) : Int) ∧ S.at 39 = .int .i64 ((k - 2 : Nat) : Int) ∧ S.at 6 = .pointer (some ⟨τ.next + 4, 0, none⟩) ∧
      S.at 94 = .slice (some ⟨τ.next + 59, 0, none⟩) 2 2 ∧ S.at 95 = .int .i64 ((2 : Nat) : Int) ∧ EX σ τ' ∧ τ.next + 59 < τ'.next ∧
      τ'.row σ.next = some ([.slice (some ⟨aid, aoff, none⟩) l.length ca, .int .i64 root], boxMeta) ∧ τ'.row (τ.next + 4) = some ([.int .i64 (vx l k).1, .int .i64 (vx l k).2.1, .int .i64 (vx l k).2.2], boxMeta) ∧
      τ'.row (τ.next + 59) = some ([.int .i64 (vx l k).2.1, .int .i64 (vx l k).2.2], rowMeta 1) ∧ MP enc3 τ' (σ.next + 24) (seenG l (k + 1)) ∧
      ∃ j : Nat, S.at 96 = .int .i64 j ∧ j ≤ 2 ∧ m = 2 - j ∧ ∀ p, p < j → 1 < (if p = 0 then (vx l k).2.1 else (vx l k).2.2) → (vx l k).1 < (vx l (if p = 0 then (vx l k).2.1 else (vx l k).2.2).toNat).1) 2 ?_ ?_
    · simp only [c_seq, RUNA, Nat.reduceAdd, Nat.reduceMod, Nat.reduceDiv, Nat.reduceSub, Nat.reduceMul, Nat.reduceEqDiff, Nat.reduceBEq, Nat.reduceLeDiff, Int.reduceToNat, fillS, wantG, vBox, Value.cells, one, putAt, Option.getD_some, Option.map_some, Option.bind_some, ne_eq, Option.some.injEq, Prod.mk.injEq, exists_and_left, exists_eq_left', exists_eq_left, List.size_toArray, List.length_cons, List.length_nil, if_true, if_false, exists_eq', exists_const, List.getElem?_cons_zero, List.getElem?_cons_succ, List.map_toArray, List.map_cons, List.map_nil, beq_iff_eq, List.all_cons, List.all_nil, cond_true, List.set_cons_zero, List.set_cons_succ, List.drop_zero, List.drop_succ_cons, List.take_succ_cons, List.take_zero, List.getElem?_toArray, Option.map_none, Option.getD_none, TYA, k_tmp, k_val, List.append_toArray, List.nil_append, List.cons_append, mm_none, row_putm, s1, s3, s4, s37, s38, s39, e4, e5, e6, e7, e8, e9, r0]
      have e10 : ¬ σ.next + 24 = τ.next + 59 := by omega
      refine ⟨?_, by omega, by rw [if_neg (by omega)], hM'.of ?_, 0, rfl, by omega, by omega, fun p hp => by omega⟩
      · repeat first | assumption | exact EXn.refl _ _ | refine EXn.more ?_ _ | refine EXn.put ?_ (by omega) _ | refine EX.trans ?_ (by assumption)
      · simp only [c_seq, RUNA, Nat.reduceAdd, Nat.reduceMod, Nat.reduceDiv, Nat.reduceSub, Nat.reduceMul, Nat.reduceEqDiff, Nat.reduceBEq, Nat.reduceLeDiff, Int.reduceToNat, fillS, wantG, vBox, Value.cells, one, putAt, Option.getD_some, Option.map_some, Option.bind_some, ne_eq, Option.some.injEq, Prod.mk.injEq, exists_and_left, exists_eq_left', exists_eq_left, List.size_toArray, List.length_cons, List.length_nil, if_true, if_false, exists_eq', exists_const, List.getElem?_cons_zero, List.getElem?_cons_succ, List.map_toArray, List.map_cons, List.map_nil, beq_iff_eq, List.all_cons, List.all_nil, cond_true, List.set_cons_zero, List.set_cons_succ, List.drop_zero, List.drop_succ_cons, List.take_succ_cons, List.take_zero, List.getElem?_toArray, Option.map_none, Option.getD_none, e10]
    clear s1 s3 s4 s37 s38 s39 hM'
    rintro _ S τ' ⟨s1, s3, s4, s37, s38, s39, s6, s94, s95, hE', hx', r0', rx, rl, hM', j, s96, hj, rfl, hch⟩
    have hk3 : IntKind.i64.wrap (((k - 2 : Nat) : Int) + 1) = ((k + 1 - 2 : Nat) : Int) := by rw [wrap64 (by omega) (by omega)]; omega
    by_cases hj2 : j < 2
    · have hdj : decide ((j : Int) < ((2 : Nat) : Int)) = true := by simp; omega
      have w0 : (0 : Int) ≤ (j : Int) := by omega
      have w1 : (j : Int) < ((2 : Nat) : Int) := by omega
      have hwj : IntKind.i64.wrap ((j : Int) + 1) = ((j + 1 : Nat) : Int) := by rw [wrap64 (by omega) (by omega)]; rfl
      have hcv := hl2 j hj2
      obtain ⟨ch, hch'⟩ : ∃ ch, ch = (if j = 0 then (vx l k).2.1 else (vx l k).2.2) := ⟨_, rfl⟩
      rw [← hch'] at hcv
      have hc0 : 0 ≤ ch ∧ ch < (k : Int) := by
        rw [hch']; split <;> omega
      simp only [c_seq, RUNA, Nat.reduceAdd, Nat.reduceMod, Nat.reduceDiv, Nat.reduceSub, Nat.reduceMul, Nat.reduceEqDiff, Nat.reduceBEq, Nat.reduceLeDiff, Int.reduceToNat, fillS, wantG, vBox, Value.cells, one, putAt, Option.getD_some, Option.map_some, Option.bind_some, ne_eq, Option.some.injEq, Prod.mk.injEq, exists_and_left, exists_eq_left', exists_eq_left, List.size_toArray, List.length_cons, List.length_nil, if_true, if_false, exists_eq', exists_const, List.getElem?_cons_zero, List.getElem?_cons_succ, List.map_toArray, List.map_cons, List.map_nil, beq_iff_eq, List.all_cons, List.all_nil, cond_true, List.set_cons_zero, List.set_cons_succ, List.drop_zero, List.drop_succ_cons, List.take_succ_cons, List.take_zero, List.getElem?_toArray, Option.map_none, Option.getD_none, TYA, k_tmp, k_val, List.append_toArray, List.nil_append, List.cons_append, mm_none, row_putm, s94, s95, s96, hdj, ia58 w0 w1, rl, hcv]
      refine d_go (ms := [0, 1, 3, 7, 15, 7, 63, 127, 255, 7, 519, 2047, 4095]) (order := [0, 1, 2, 3, 4, 5, 6, 7, 8, 9, 10, 11, 12]) (by kernel_rfl) (by kernel_rfl) (by kernel_rfl) ?_
      have ra' := (hE'.row aid a1).trans a2
      by_cases hc1 : 1 < ch
      · have d1 : decide (1 < ch) = true := decide_eq_true hc1
        have u0 : 0 ≤ ch := hc0.1
        have u1 : ch < (l.length : Int) := by omega
        have fa := flat_at0 a3 (k := ch.toNat) (by omega)
        by_cases hv : (vx l ch.toNat).1 ≤ (vx l k).1
        · have d2 : decide ((vx l ch.toNat).1 ≤ (vx l k).1) = true := decide_eq_true hv
          simp only [YRUNA, Nat.reduceShiftRight, bit, List.filterMap_cons, List.filterMap_nil, List.filter_cons, List.filter_nil, List.forall_mem_cons, List.not_mem_nil, implies_true, List.getD_cons_zero, List.getD_cons_succ, eq_self, c_seq, RUNA, Nat.reduceAdd, Nat.reduceMod, Nat.reduceDiv, Nat.reduceSub, Nat.reduceMul, Nat.reduceEqDiff, Nat.reduceBEq, Nat.reduceLeDiff, Int.reduceToNat, fillS, wantG, vBox, Value.cells, one, putAt, Option.getD_some, Option.map_some, Option.bind_some, ne_eq, Option.some.injEq, Prod.mk.injEq, exists_and_left, exists_eq_left', exists_eq_left, List.size_toArray, List.length_cons, List.length_nil, if_true, if_false, exists_eq', exists_const, List.getElem?_cons_zero, List.getElem?_cons_succ, List.map_toArray, List.map_cons, List.map_nil, beq_iff_eq, List.all_cons, List.all_nil, cond_true, List.set_cons_zero, List.set_cons_succ, List.drop_zero, List.drop_succ_cons, List.take_succ_cons, List.take_zero, List.getElem?_toArray, Option.map_none, Option.getD_none, TYA, k_tmp, k_val, List.append_toArray, List.nil_append, List.cons_append, mm_none, row_putm, s1, s6, s96, d1, d2, ia23 u0 u1, r0', rx, ra', fa, hr]
          refine bad (fun h => ?_) _ ?_
          · have h2 := h.2
            unfold Ck2 at h2
            rw [hch'] at hc1 hv
            split at hc1
            · rename_i e; rw [if_pos e] at hv; have := h2.1 hc1; omega
            · rename_i e; rw [if_neg e] at hv; have := h2.2 hc1; omega
          · repeat first | assumption | exact EXn.refl _ _ | refine EXn.more ?_ _ | refine EXn.put ?_ (by omega) _ | refine EX.trans ?_ (by assumption)
        · have d2 : decide ((vx l ch.toNat).1 ≤ (vx l k).1) = false := decide_eq_false hv
          simp only [YRUNA, Nat.reduceShiftRight, bit, List.filterMap_cons, List.filterMap_nil, List.filter_cons, List.filter_nil, List.forall_mem_cons, List.not_mem_nil, implies_true, List.getD_cons_zero, List.getD_cons_succ, eq_self, c_seq, RUNA, Nat.reduceAdd, Nat.reduceMod, Nat.reduceDiv, Nat.reduceSub, Nat.reduceMul, Nat.reduceEqDiff, Nat.reduceBEq, Nat.reduceLeDiff, Int.reduceToNat, fillS, wantG, vBox, Value.cells, one, putAt, Option.getD_some, Option.map_some, Option.bind_some, ne_eq, Option.some.injEq, Prod.mk.injEq, exists_and_left, exists_eq_left', exists_eq_left, List.size_toArray, List.length_cons, List.length_nil, if_true, if_false, exists_eq', exists_const, List.getElem?_cons_zero, List.getElem?_cons_succ, List.map_toArray, List.map_cons, List.map_nil, beq_iff_eq, List.all_cons, List.all_nil, cond_true, List.set_cons_zero, List.set_cons_succ, List.drop_zero, List.drop_succ_cons, List.take_succ_cons, List.take_zero, List.getElem?_toArray, Option.map_none, Option.getD_none, TYA, k_tmp, k_val, List.append_toArray, List.nil_append, List.cons_append, mm_none, row_putm, s1, s3, s4, s37, s38, s39, s6, s94, s95, s96, d1, d2, ia23 u0 u1, r0', rx, ra', fa, rl, hwj]
          refine ⟨2 - (j + 1), by omega, ?_, by omega, hM'.of (by simp only [c_seq, RUNA, Nat.reduceAdd, Nat.reduceMod, Nat.reduceDiv, Nat.reduceSub, Nat.reduceMul, Nat.reduceEqDiff, Nat.reduceBEq, Nat.reduceLeDiff, Int.reduceToNat, fillS, wantG, vBox, Value.cells, one, putAt, Option.getD_some, Option.map_some, Option.bind_some, ne_eq, Option.some.injEq, Prod.mk.injEq, exists_and_left, exists_eq_left', exists_eq_left, List.size_toArray, List.length_cons, List.length_nil, if_true, if_false, exists_eq', exists_const, List.getElem?_cons_zero, List.getElem?_cons_succ, List.map_toArray, List.map_cons, List.map_nil, beq_iff_eq, List.all_cons, List.all_nil, cond_true, List.set_cons_zero, List.set_cons_succ, List.drop_zero, List.drop_succ_cons, List.take_succ_cons, List.take_zero, List.getElem?_toArray, Option.map_none, Option.getD_none]), j + 1, rfl, by omega, rfl, fun p hp h => ?_⟩
          · repeat first | assumption | exact EXn.refl _ _ | refine EXn.more ?_ _ | refine EXn.put ?_ (by omega) _ | refine EX.trans ?_ (by assumption)
          · by_cases hpj : p = j
            · subst hpj; rw [← hch'] at h ⊢; omega
            · exact hch p (by omega) h
      · have d1 : decide (1 < ch) = false := decide_eq_false hc1
        simp only [YRUNA, Nat.reduceShiftRight, bit, List.filterMap_cons, List.filterMap_nil, List.filter_cons, List.filter_nil, List.forall_mem_cons, List.not_mem_nil, implies_true, List.getD_cons_zero, List.getD_cons_succ, eq_self, c_seq, RUNA, Nat.reduceAdd, Nat.reduceMod, Nat.reduceDiv, Nat.reduceSub, Nat.reduceMul, Nat.reduceEqDiff, Nat.reduceBEq, Nat.reduceLeDiff, Int.reduceToNat, fillS, wantG, vBox, Value.cells, one, putAt, Option.getD_some, Option.map_some, Option.bind_some, ne_eq, Option.some.injEq, Prod.mk.injEq, exists_and_left, exists_eq_left', exists_eq_left, List.size_toArray, List.length_cons, List.length_nil, if_true, if_false, exists_eq', exists_const, List.getElem?_cons_zero, List.getElem?_cons_succ, List.map_toArray, List.map_cons, List.map_nil, beq_iff_eq, List.all_cons, List.all_nil, cond_true, List.set_cons_zero, List.set_cons_succ, List.drop_zero, List.drop_succ_cons, List.take_succ_cons, List.take_zero, List.getElem?_toArray, Option.map_none, Option.getD_none, TYA, k_tmp, k_val, List.append_toArray, List.nil_append, List.cons_append, mm_none, row_putm, s1, s3, s4, s37, s38, s39, s6, s94, s95, s96, d1, r0', rx, rl, hwj]
        refine ⟨2 - (j + 1), by omega, ?_, by omega, hM'.of (by simp only [c_seq, RUNA, Nat.reduceAdd, Nat.reduceMod, Nat.reduceDiv, Nat.reduceSub, Nat.reduceMul, Nat.reduceEqDiff, Nat.reduceBEq, Nat.reduceLeDiff, Int.reduceToNat, fillS, wantG, vBox, Value.cells, one, putAt, Option.getD_some, Option.map_some, Option.bind_some, ne_eq, Option.some.injEq, Prod.mk.injEq, exists_and_left, exists_eq_left', exists_eq_left, List.size_toArray, List.length_cons, List.length_nil, if_true, if_false, exists_eq', exists_const, List.getElem?_cons_zero, List.getElem?_cons_succ, List.map_toArray, List.map_cons, List.map_nil, beq_iff_eq, List.all_cons, List.all_nil, cond_true, List.set_cons_zero, List.set_cons_succ, List.drop_zero, List.drop_succ_cons, List.take_succ_cons, List.take_zero, List.getElem?_toArray, Option.map_none, Option.getD_none]), j + 1, rfl, by omega, rfl, fun p hp h => ?_⟩
        · repeat first | assumption | exact EXn.refl _ _ | refine EXn.more ?_ _ | refine EXn.put ?_ (by omega) _ | refine EX.trans ?_ (by assumption)
        · by_cases hpj : p = j
          · subst hpj; rw [← hch'] at h; exact (hc1 h).elim
          · exact hch p (by omega) h
    · have hdj : decide ((j : Int) < ((2 : Nat) : Int)) = false := by simp; omega
      simp only [c_seq, RUNA, Nat.reduceAdd, Nat.reduceMod, Nat.reduceDiv, Nat.reduceSub, Nat.reduceMul, Nat.reduceEqDiff, Nat.reduceBEq, Nat.reduceLeDiff, Int.reduceToNat, fillS, wantG, vBox, Value.cells, one, putAt, Option.getD_some, Option.map_some, Option.bind_some, ne_eq, Option.some.injEq, Prod.mk.injEq, exists_and_left, exists_eq_left', exists_eq_left, List.size_toArray, List.length_cons, List.length_nil, if_true, if_false, exists_eq', exists_const, List.getElem?_cons_zero, List.getElem?_cons_succ, List.map_toArray, List.map_cons, List.map_nil, beq_iff_eq, List.all_cons, List.all_nil, cond_true, List.set_cons_zero, List.set_cons_succ, List.drop_zero, List.drop_succ_cons, List.take_succ_cons, List.take_zero, List.getElem?_toArray, Option.map_none, Option.getD_none, TYA, k_tmp, k_val, List.append_toArray, List.nil_append, List.cons_append, mm_none, row_putm, s1, s3, s4, s37, s38, s39, s6, s94, s95, s96, hdj, hk3]
      refine ⟨l.length - (k + 1), by omega, ?_, by omega, r0', k + 1, rfl, by omega, by omega, rfl, hG.succ hC1 ?_, hM'.of (by simp only [c_seq, RUNA, Nat.reduceAdd, Nat.reduceMod, Nat.reduceDiv, Nat.reduceSub, Nat.reduceMul, Nat.reduceEqDiff, Nat.reduceBEq, Nat.reduceLeDiff, Int.reduceToNat, fillS, wantG, vBox, Value.cells, one, putAt, Option.getD_some, Option.map_some, Option.bind_some, ne_eq, Option.some.injEq, Prod.mk.injEq, exists_and_left, exists_eq_left', exists_eq_left, List.size_toArray, List.length_cons, List.length_nil, if_true, if_false, exists_eq', exists_const, List.getElem?_cons_zero, List.getElem?_cons_succ, List.map_toArray, List.map_cons, List.map_nil, beq_iff_eq, List.all_cons, List.all_nil, cond_true, List.set_cons_zero, List.set_cons_succ, List.drop_zero, List.drop_succ_cons, List.take_succ_cons, List.take_zero, List.getElem?_toArray, Option.map_none, Option.getD_none])⟩
      · repeat first | assumption | exact EXn.refl _ _ | refine EXn.more ?_ _ | refine EXn.put ?_ (by omega) _ | refine EX.trans ?_ (by assumption)
      · refine ⟨fun h => ?_, fun h => ?_⟩
        · exact hch 0 (by omega) h
        · exact hch 1 (by omega) h
  · have hd : decide (((k - 2 : Nat) : Int) < ((l.length - 2 : Nat) : Int)) = false := by simp; omega
    obtain rfl : k = l.length := by omega
    have hGd : Gd l := hG.gd (by omega)
    by_cases hn2 : l.length = 2
    · have g2 : ((l.length : Int) == 2) = true := by simp; omega
      have vd : (root = 0 ∨ root = 1) ↔ ValidD (l, root) := by
        constructor
        · intro h; exact ⟨hGd, h0, h1, Or.inl ⟨hn2, h⟩⟩
        · rintro ⟨_, _, _, ⟨_, h⟩ | ⟨h, _⟩⟩
          · exact h
          · simp only at h; omega
      by_cases hr0 : root = 0
      · have g3 : (root == 0) = true := by simp [hr0]
        simp only [c_seq, RUNA, Nat.reduceAdd, Nat.reduceMod, Nat.reduceDiv, Nat.reduceSub, Nat.reduceMul, Nat.reduceEqDiff, Nat.reduceBEq, Nat.reduceLeDiff, Int.reduceToNat, fillS, wantG, vBox, Value.cells, one, putAt, Option.getD_some, Option.map_some, Option.bind_some, ne_eq, Option.some.injEq, Prod.mk.injEq, exists_and_left, exists_eq_left', exists_eq_left, List.size_toArray, List.length_cons, List.length_nil, if_true, if_false, exists_eq', exists_const, List.getElem?_cons_zero, List.getElem?_cons_succ, List.map_toArray, List.map_cons, List.map_nil, beq_iff_eq, List.all_cons, List.all_nil, cond_true, List.set_cons_zero, List.set_cons_succ, List.drop_zero, List.drop_succ_cons, List.take_succ_cons, List.take_zero, List.getElem?_toArray, Option.map_none, Option.getD_none, TYA, k_tmp, k_val, List.append_toArray, List.nil_append, List.cons_append, mm_none, row_putm, s1, s3, s4, s37, s38, s39, hd, g2, r0, g3, hr]
        refine ⟨⟨true, rfl, ?_⟩, ?_⟩
        · rw [← vd]; simp [hr0]
        · repeat first | assumption | exact EXn.refl _ _ | refine EXn.more ?_ _ | refine EXn.put ?_ (by omega) _ | refine EX.trans ?_ (by assumption)
      · have g3 : (root == 0) = false := by simp [hr0]
        simp only [c_seq, RUNA, Nat.reduceAdd, Nat.reduceMod, Nat.reduceDiv, Nat.reduceSub, Nat.reduceMul, Nat.reduceEqDiff, Nat.reduceBEq, Nat.reduceLeDiff, Int.reduceToNat, fillS, wantG, vBox, Value.cells, one, putAt, Option.getD_some, Option.map_some, Option.bind_some, ne_eq, Option.some.injEq, Prod.mk.injEq, exists_and_left, exists_eq_left', exists_eq_left, List.size_toArray, List.length_cons, List.length_nil, if_true, if_false, exists_eq', exists_const, List.getElem?_cons_zero, List.getElem?_cons_succ, List.map_toArray, List.map_cons, List.map_nil, beq_iff_eq, List.all_cons, List.all_nil, cond_true, List.set_cons_zero, List.set_cons_succ, List.drop_zero, List.drop_succ_cons, List.take_succ_cons, List.take_zero, List.getElem?_toArray, Option.map_none, Option.getD_none, TYA, k_tmp, k_val, List.append_toArray, List.nil_append, List.cons_append, mm_none, row_putm, s1, s3, s4, s37, s38, s39, hd, g2, r0, g3, hr]
        refine ⟨⟨_, rfl, ?_⟩, ?_⟩
        · rw [← vd]; simp [hr0]
        · repeat first | assumption | exact EXn.refl _ _ | refine EXn.more ?_ _ | refine EXn.put ?_ (by omega) _ | refine EX.trans ?_ (by assumption)
    · have g2 : ((l.length : Int) == 2) = false := by simp; omega
      have hw1 : IntKind.i64.wrap ((l.length : Int) - 1) = ((l.length - 1 : Nat) : Int) := by rw [wrap64 (by omega) (by omega)]; omega
      by_cases hrt : root = ((l.length - 1 : Nat) : Int)
      · have g3 : (root != ((l.length - 1 : Nat) : Int)) = false := by simp [hrt]
        obtain ⟨T, hT, hTo⟩ := Rep.ex hGd (l.length - 1) (by omega)
        rw [← hrt] at hT
        have hle0 : 0 + 1 ≤ ((tab l.length fun _ => false).map Value.bool).length := by rw [List.length_map, tab_len]; omega
        have hle1 : 1 + 1 ≤ (((tab l.length fun _ => false).map Value.bool).set 0 (.bool true)).length := by rw [List.length_set, List.length_map, tab_len]; omega
        simp only [Nat.zero_add, Nat.reduceAdd] at hle0 hle1
        simp only [c_seq, RUNA, Nat.reduceAdd, Nat.reduceMod, Nat.reduceDiv, Nat.reduceSub, Nat.reduceMul, Nat.reduceEqDiff, Nat.reduceBEq, Nat.reduceLeDiff, Int.reduceToNat, fillS, wantG, vBox, Value.cells, one, putAt, Option.getD_some, Option.map_some, Option.bind_some, ne_eq, Option.some.injEq, Prod.mk.injEq, exists_and_left, exists_eq_left', exists_eq_left, List.size_toArray, List.length_cons, List.length_nil, if_true, if_false, exists_eq', exists_const, List.getElem?_cons_zero, List.getElem?_cons_succ, List.map_toArray, List.map_cons, List.map_nil, beq_iff_eq, List.all_cons, List.all_nil, cond_true, List.set_cons_zero, List.set_cons_succ, List.drop_zero, List.drop_succ_cons, List.take_succ_cons, List.take_zero, List.getElem?_toArray, Option.map_none, Option.getD_none, TYA, k_tmp, k_val, List.append_toArray, List.nil_append, List.cons_append, mm_none, row_putm, s1, s3, s4, s37, s38, s39, hd, g2, r0, hw1, g3, mkB' l.length (by omega)]
        refine d_go (ms := [0, 0, 1, 5, 15, 31]) (order := [0, 1, 2, 3, 4, 5]) (by kernel_rfl) (by kernel_rfl) (by kernel_rfl) ?_
        have f9 : ¬ σ.next = τ.next + 9 := by omega
        have h9 : ¬ aid = τ.next + 9 := by omega
        have f10 : ¬ σ.next = τ.next + 10 := by omega
        have h10 : ¬ aid = τ.next + 10 := by omega
        have f18 : ¬ σ.next = τ.next + 18 := by omega
        have h18 : ¬ aid = τ.next + 18 := by omega
        have f20 : ¬ σ.next = τ.next + 20 := by omega
        have h20 : ¬ aid = τ.next + 20 := by omega
        have f22 : ¬ σ.next = τ.next + 22 := by omega
        have h22 : ¬ aid = τ.next + 22 := by omega
        simp only [YRUNA, Nat.reduceShiftRight, bit, List.filterMap_cons, List.filterMap_nil, List.filter_cons, List.filter_nil, List.forall_mem_cons, List.not_mem_nil, implies_true, List.getD_cons_zero, List.getD_cons_succ, eq_self, c_seq, RUNA, Nat.reduceAdd, Nat.reduceMod, Nat.reduceDiv, Nat.reduceSub, Nat.reduceMul, Nat.reduceEqDiff, Nat.reduceBEq, Nat.reduceLeDiff, Int.reduceToNat, fillS, wantG, vBox, Value.cells, one, putAt, Option.getD_some, Option.map_some, Option.bind_some, ne_eq, Option.some.injEq, Prod.mk.injEq, exists_and_left, exists_eq_left', exists_eq_left, List.size_toArray, List.length_cons, List.length_nil, if_true, if_false, exists_eq', exists_const, List.getElem?_cons_zero, List.getElem?_cons_succ, List.map_toArray, List.map_cons, List.map_nil, beq_iff_eq, List.all_cons, List.all_nil, cond_true, List.set_cons_zero, List.set_cons_succ, List.drop_zero, List.drop_succ_cons, List.take_succ_cons, List.take_zero, List.getElem?_toArray, Option.map_none, Option.getD_none, TYA, k_tmp, k_val, List.append_toArray, List.nil_append, List.cons_append, mm_none, row_putm, s1, s3, s4, ia43 z0 z1, ia43 z2 z3, hle0, hle1, f9, h9, f10, h10, f18, h18, f20, h20, f22, h22, r0]
        have tset : (((tab l.length fun _ => false).map Value.bool).set 0 (.bool true)).set 1 (.bool true) = (tab l.length fun j => decide (j < 2)).map Value.bool := by
          rw [← List.map_set, ← List.map_set, tab_set, tab_set]
          congr 1
          refine tab_congr fun j _ => ?_
          by_cases e1 : j = 1
          · subst e1; rfl
          · by_cases e0 : j = 0
            · subst e0; rfl
            · rw [if_neg e1, if_neg e0, decide_eq_false (by omega)]
        refine wpc_mono (visitV σ.next σ.next (τ.next + 9) (τ.next + 10) (τ.next + 18) (τ.next + 20) (τ.next + 22) aid aoff ca l root hGd hl a1 (Nat.le_refl _) (by omega) (by omega) (by omega) (by omega) (by omega) T root _ true 2 (tab l.length fun j => decide (j < 2)) hT ?_ (fun _ => ⟨2, rfl, by omega, by omega, rfl⟩)) ?_
        · have hFt := hE.fr hF
          refine ⟨by repeat first | assumption | refine Fr.more ?_ _ | refine Fr.put ?_ _ _, by first | omega | (simp only [next_more, next_put] at *; omega), tab_len _ _, ?_, ?_, ?_, ?_, ?_, ?_, ⟨arow, m3 am, ?_, a3⟩⟩
          · simp only [c_seq, RUNA, Nat.reduceAdd, Nat.reduceMod, Nat.reduceDiv, Nat.reduceSub, Nat.reduceMul, Nat.reduceEqDiff, Nat.reduceBEq, Nat.reduceLeDiff, Int.reduceToNat, fillS, wantG, vBox, Value.cells, one, putAt, Option.getD_some, Option.map_some, Option.bind_some, ne_eq, Option.some.injEq, Prod.mk.injEq, exists_and_left, exists_eq_left', exists_eq_left, List.size_toArray, List.length_cons, List.length_nil, if_true, if_false, exists_eq', exists_const, List.getElem?_cons_zero, List.getElem?_cons_succ, List.map_toArray, List.map_cons, List.map_nil, beq_iff_eq, List.all_cons, List.all_nil, cond_true, List.set_cons_zero, List.set_cons_succ, List.drop_zero, List.drop_succ_cons, List.take_succ_cons, List.take_zero, List.getElem?_toArray, Option.map_none, Option.getD_none]
          · simp only [c_seq, RUNA, Nat.reduceAdd, Nat.reduceMod, Nat.reduceDiv, Nat.reduceSub, Nat.reduceMul, Nat.reduceEqDiff, Nat.reduceBEq, Nat.reduceLeDiff, Int.reduceToNat, fillS, wantG, vBox, Value.cells, one, putAt, Option.getD_some, Option.map_some, Option.bind_some, ne_eq, Option.some.injEq, Prod.mk.injEq, exists_and_left, exists_eq_left', exists_eq_left, List.size_toArray, List.length_cons, List.length_nil, if_true, if_false, exists_eq', exists_const, List.getElem?_cons_zero, List.getElem?_cons_succ, List.map_toArray, List.map_cons, List.map_nil, beq_iff_eq, List.all_cons, List.all_nil, cond_true, List.set_cons_zero, List.set_cons_succ, List.drop_zero, List.drop_succ_cons, List.take_succ_cons, List.take_zero, List.getElem?_toArray, Option.map_none, Option.getD_none, tset]
          · simp only [c_seq, RUNA, Nat.reduceAdd, Nat.reduceMod, Nat.reduceDiv, Nat.reduceSub, Nat.reduceMul, Nat.reduceEqDiff, Nat.reduceBEq, Nat.reduceLeDiff, Int.reduceToNat, fillS, wantG, vBox, Value.cells, one, putAt, Option.getD_some, Option.map_some, Option.bind_some, ne_eq, Option.some.injEq, Prod.mk.injEq, exists_and_left, exists_eq_left', exists_eq_left, List.size_toArray, List.length_cons, List.length_nil, if_true, if_false, exists_eq', exists_const, List.getElem?_cons_zero, List.getElem?_cons_succ, List.map_toArray, List.map_cons, List.map_nil, beq_iff_eq, List.all_cons, List.all_nil, cond_true, List.set_cons_zero, List.set_cons_succ, List.drop_zero, List.drop_succ_cons, List.take_succ_cons, List.take_zero, List.getElem?_toArray, Option.map_none, Option.getD_none]
          · simp only [c_seq, RUNA, Nat.reduceAdd, Nat.reduceMod, Nat.reduceDiv, Nat.reduceSub, Nat.reduceMul, Nat.reduceEqDiff, Nat.reduceBEq, Nat.reduceLeDiff, Int.reduceToNat, fillS, wantG, vBox, Value.cells, one, putAt, Option.getD_some, Option.map_some, Option.bind_some, ne_eq, Option.some.injEq, Prod.mk.injEq, exists_and_left, exists_eq_left', exists_eq_left, List.size_toArray, List.length_cons, List.length_nil, if_true, if_false, exists_eq', exists_const, List.getElem?_cons_zero, List.getElem?_cons_succ, List.map_toArray, List.map_cons, List.map_nil, beq_iff_eq, List.all_cons, List.all_nil, cond_true, List.set_cons_zero, List.set_cons_succ, List.drop_zero, List.drop_succ_cons, List.take_succ_cons, List.take_zero, List.getElem?_toArray, Option.map_none, Option.getD_none]
          · simp only [c_seq, RUNA, Nat.reduceAdd, Nat.reduceMod, Nat.reduceDiv, Nat.reduceSub, Nat.reduceMul, Nat.reduceEqDiff, Nat.reduceBEq, Nat.reduceLeDiff, Int.reduceToNat, fillS, wantG, vBox, Value.cells, one, putAt, Option.getD_some, Option.map_some, Option.bind_some, ne_eq, Option.some.injEq, Prod.mk.injEq, exists_and_left, exists_eq_left', exists_eq_left, List.size_toArray, List.length_cons, List.length_nil, if_true, if_false, exists_eq', exists_const, List.getElem?_cons_zero, List.getElem?_cons_succ, List.map_toArray, List.map_cons, List.map_nil, beq_iff_eq, List.all_cons, List.all_nil, cond_true, List.set_cons_zero, List.set_cons_succ, List.drop_zero, List.drop_succ_cons, List.take_succ_cons, List.take_zero, List.getElem?_toArray, Option.map_none, Option.getD_none, f9, h9, f10, h10, f18, h18, f20, h20, f22, h22, r0]
          · simp only [c_seq, RUNA, Nat.reduceAdd, Nat.reduceMod, Nat.reduceDiv, Nat.reduceSub, Nat.reduceMul, Nat.reduceEqDiff, Nat.reduceBEq, Nat.reduceLeDiff, Int.reduceToNat, fillS, wantG, vBox, Value.cells, one, putAt, Option.getD_some, Option.map_some, Option.bind_some, ne_eq, Option.some.injEq, Prod.mk.injEq, exists_and_left, exists_eq_left', exists_eq_left, List.size_toArray, List.length_cons, List.length_nil, if_true, if_false, exists_eq', exists_const, List.getElem?_cons_zero, List.getElem?_cons_succ, List.map_toArray, List.map_cons, List.map_nil, beq_iff_eq, List.all_cons, List.all_nil, cond_true, List.set_cons_zero, List.set_cons_succ, List.drop_zero, List.drop_succ_cons, List.take_succ_cons, List.take_zero, List.getElem?_toArray, Option.map_none, Option.getD_none]
          · simp only [c_seq, RUNA, Nat.reduceAdd, Nat.reduceMod, Nat.reduceDiv, Nat.reduceSub, Nat.reduceMul, Nat.reduceEqDiff, Nat.reduceBEq, Nat.reduceLeDiff, Int.reduceToNat, fillS, wantG, vBox, Value.cells, one, putAt, Option.getD_some, Option.map_some, Option.bind_some, ne_eq, Option.some.injEq, Prod.mk.injEq, exists_and_left, exists_eq_left', exists_eq_left, List.size_toArray, List.length_cons, List.length_nil, if_true, if_false, exists_eq', exists_const, List.getElem?_cons_zero, List.getElem?_cons_succ, List.map_toArray, List.map_cons, List.map_nil, beq_iff_eq, List.all_cons, List.all_nil, cond_true, List.set_cons_zero, List.set_cons_succ, List.drop_zero, List.drop_succ_cons, List.take_succ_cons, List.take_zero, List.getElem?_toArray, Option.map_none, Option.getD_none, f9, h9, f10, h10, f18, h18, f20, h20, f22, h22, ra]
        rintro r σ2 ⟨ok', nx', left', hB, hI, ⟨_, hP⟩, hE2⟩
        have hP' := hP rfl 2 rfl
        have n2 := hE2.next
        simp only [next_more, next_put] at n2
        have hlt2 := hB.lt
        have vd : (pvT l T root 2 = some l.length) ↔ ValidD (l, root) := by
          have hpo := pvT_ord l T root 2 hT (by omega)
          have hr0 : rng (2 - 2) = [] := rfl
          rw [hr0] at hpo
          constructor
          · intro h
            exact ⟨hGd, h0, h1, Or.inr ⟨by simp only; omega, by simp only; omega, T, hT, (hpo.1 _ h).2⟩⟩
          · rintro ⟨_, _, _, ⟨h, _⟩ | ⟨_, _, T', h4, h5⟩⟩
            · simp only at h; omega
            · have e := Rep.fn h4 hT
              subst e
              have := hpo.2 _ h5
              rwa [show l.length - 2 + 2 = l.length by omega] at this
        have eF : EX σ σ2 := by
          refine EXn.trans ?_ hE2
          repeat first | assumption | exact EXn.refl _ _ | refine EXn.more ?_ _ | refine EXn.put ?_ (by omega) _ | refine EX.trans ?_ (by assumption)
        cases hok : ok' with
        | false =>
          have rk := hB.rk
          rw [hok] at rk
          simp only [c_seq, RUNA, Nat.reduceAdd, Nat.reduceMod, Nat.reduceDiv, Nat.reduceSub, Nat.reduceMul, Nat.reduceEqDiff, Nat.reduceBEq, Nat.reduceLeDiff, Int.reduceToNat, fillS, wantG, vBox, Value.cells, one, putAt, Option.getD_some, Option.map_some, Option.bind_some, ne_eq, Option.some.injEq, Prod.mk.injEq, exists_and_left, exists_eq_left', exists_eq_left, List.size_toArray, List.length_cons, List.length_nil, if_true, if_false, exists_eq', exists_const, List.getElem?_cons_zero, List.getElem?_cons_succ, List.map_toArray, List.map_cons, List.map_nil, beq_iff_eq, List.all_cons, List.all_nil, cond_true, List.set_cons_zero, List.set_cons_succ, List.drop_zero, List.drop_succ_cons, List.take_succ_cons, List.take_zero, List.getElem?_toArray, Option.map_none, Option.getD_none, TYA, k_tmp, k_val, List.append_toArray, List.nil_append, List.cons_append, mm_none, row_putm, s1, s3, rk, hr]
          refine ⟨⟨false, rfl, no fun h => ?_⟩, ?_⟩
          · rw [← vd] at h
            rw [h] at hP'
            rw [hok] at hP'; cases hP'.1
          · repeat first | assumption | exact EXn.refl _ _ | refine EXn.more ?_ _ | refine EXn.put ?_ (by omega) _ | refine EX.trans ?_ (by assumption)
        | true =>
          have rk := hB.rk
          rw [hok] at rk
          simp only [c_seq, RUNA, Nat.reduceAdd, Nat.reduceMod, Nat.reduceDiv, Nat.reduceSub, Nat.reduceMul, Nat.reduceEqDiff, Nat.reduceBEq, Nat.reduceLeDiff, Int.reduceToNat, fillS, wantG, vBox, Value.cells, one, putAt, Option.getD_some, Option.map_some, Option.bind_some, ne_eq, Option.some.injEq, Prod.mk.injEq, exists_and_left, exists_eq_left', exists_eq_left, List.size_toArray, List.length_cons, List.length_nil, if_true, if_false, exists_eq', exists_const, List.getElem?_cons_zero, List.getElem?_cons_succ, List.map_toArray, List.map_cons, List.map_nil, beq_iff_eq, List.all_cons, List.all_nil, cond_true, List.set_cons_zero, List.set_cons_succ, List.drop_zero, List.drop_succ_cons, List.take_succ_cons, List.take_zero, List.getElem?_toArray, Option.map_none, Option.getD_none, TYA, k_tmp, k_val, List.append_toArray, List.nil_append, List.cons_append, mm_none, row_putm, s1, s3, rk, hB.rn, hr]
          refine ⟨⟨_, rfl, ?_⟩, ?_⟩
          · rw [← vd]
            cases hp : pvT l T root 2 with
            | none => rw [hp] at hP'; rw [hok] at hP'; cases hP'
            | some m =>
              rw [hp] at hP'
              rw [hP'.2]
              simp only [beq_iff_eq, Option.some.injEq]
              omega
          · repeat first | assumption | exact EXn.refl _ _ | refine EXn.more ?_ _ | refine EXn.put ?_ (by omega) _ | refine EX.trans ?_ (by assumption)
      · have g3 : (root != ((l.length - 1 : Nat) : Int)) = true := by simp [hrt]
        simp only [c_seq, RUNA, Nat.reduceAdd, Nat.reduceMod, Nat.reduceDiv, Nat.reduceSub, Nat.reduceMul, Nat.reduceEqDiff, Nat.reduceBEq, Nat.reduceLeDiff, Int.reduceToNat, fillS, wantG, vBox, Value.cells, one, putAt, Option.getD_some, Option.map_some, Option.bind_some, ne_eq, Option.some.injEq, Prod.mk.injEq, exists_and_left, exists_eq_left', exists_eq_left, List.size_toArray, List.length_cons, List.length_nil, if_true, if_false, exists_eq', exists_const, List.getElem?_cons_zero, List.getElem?_cons_succ, List.map_toArray, List.map_cons, List.map_nil, beq_iff_eq, List.all_cons, List.all_nil, cond_true, List.set_cons_zero, List.set_cons_succ, List.drop_zero, List.drop_succ_cons, List.take_succ_cons, List.take_zero, List.getElem?_toArray, Option.map_none, Option.getD_none, TYA, k_tmp, k_val, List.append_toArray, List.nil_append, List.cons_append, mm_none, row_putm, s1, s3, s4, s37, s38, s39, hd, g2, r0, hw1, g3, hr]
        refine ⟨⟨false, rfl, no fun h => ?_⟩, ?_⟩
        · obtain ⟨_, _, _, ⟨h, _⟩ | ⟨h, h', _⟩⟩ := h
          · exact hn2 h
          · simp only at h h'; omega
        · repeat first | assumption | exact EXn.refl _ _ | refine EXn.more ?_ _ | refine EXn.put ?_ (by omega) _ | refine EX.trans ?_ (by assumption)
end Go.Proofs.Ytlealdhgajomhaa
