import Derived.Test.YtmjddjjcnhckgaaGreatDoorKr
import Derived.Test.YtmjddjjcnhckgaaGreatDoorKm
set_option linter.unusedVariables false
set_option linter.unusedSimpArgs false
set_option linter.constructorNameAsVariable false
open Nat renaming reduceAdd → zAd, reduceMod → zMo, reduceDiv → zDi, reduceSub → zSu, reduceMul → zMu, reduceEqDiff → zEq, reduceBEq → zBe, reduceLeDiff → zLe, reduceShiftRight → zSh
open Int renaming reduceToNat → zTo
namespace Go.Proofs.Q
open Go.AI
set_option maxRecDepth 20000
structure Gk (l : List Vtx) (n : Nat) : Prop where
 var : ∀ k, 2 ≤ k → k < n → 0 ≤ (vx l k).1 ∧ (vx l k).1 < 10
 lo : ∀ k : Nat, 2 ≤ k → k < n → 0 ≤ (vx l k).2.1 ∧ (vx l k).2.1 < (k : Int)
 hi : ∀ k : Nat, 2 ≤ k → k < n → 0 ≤ (vx l k).2.2 ∧ (vx l k).2.2 < (k : Int)
 ne : ∀ k, 2 ≤ k → k < n → (vx l k).2.1 ≠ (vx l k).2.2
 olo : ∀ k, 2 ≤ k → k < n → 1 < (vx l k).2.1 → (vx l k).1 < (vx l (vx l k).2.1.toNat).1
 ohi : ∀ k, 2 ≤ k → k < n → 1 < (vx l k).2.2 → (vx l k).1 < (vx l (vx l k).2.2.toNat).1
 uq : ∀ j k, 2 ≤ j → j < k → k < n → vx l j ≠ vx l k
theorem Gk.gd {l : List Vtx} (h : Gk l l.length) (h2 : 2 ≤ l.length) : Gd l := by
 refine ⟨h2, h.var, h.lo, h.hi, h.ne, h.olo, h.ohi, fun j k j1 j2 k1 k2 e => ?_⟩
 rcases Nat.lt_trichotomy j k with q | q | q
 ·exact (h.uq j k j1 q k2 e).elim
 ·exact q
 ·exact (h.uq k j k1 q j2 e.symm).elim
theorem Gd.gk {l : List Vtx} (h : Gd l) : Gk l l.length :=
 ⟨h.var, h.lo, h.hi, h.ne, h.olo, h.ohi, fun j k j1 jk k2 e => by have := h.uq j k j1 (by omega) (by omega) k2 e; omega⟩
theorem Gk.two (l : List Vtx) : Gk l 2 := ⟨fun k _ _ => by omega, fun k _ _ => by omega, fun k _ _ => by omega, fun k _ _ => by omega, fun k _ _ => by omega, fun k _ _ => by omega, fun j k _ _ _ => by omega⟩
theorem Gk.mono {l : List Vtx} {n m : Nat} (h : Gk l n) (hm : m ≤ n) : Gk l m :=
 ⟨fun k a b => h.var k a (by omega), fun k a b => h.lo k a (by omega), fun k a b => h.hi k a (by omega), fun k a b => h.ne k a (by omega), fun k a b => h.olo k a (by omega), fun k a b => h.ohi k a (by omega), fun j k a b c => h.uq j k a b (by omega)⟩
def Ck1 (l : List Vtx) (k : Nat) : Prop := 0 ≤ (vx l k).1 ∧ (vx l k).1 < 10 ∧ 0 ≤ (vx l k).2.1 ∧ 0 ≤ (vx l k).2.2 ∧ (vx l k).2.1 < (k : Int) ∧ (vx l k).2.2 < (k : Int) ∧ (vx l k).2.1 ≠ (vx l k).2.2 ∧ ∀ j, 2 ≤ j → j < k → vx l j ≠ vx l k
def Ck2 (l : List Vtx) (k : Nat) : Prop := (1 < (vx l k).2.1 → (vx l k).1 < (vx l (vx l k).2.1.toNat).1) ∧ (1 < (vx l k).2.2 → (vx l k).1 < (vx l (vx l k).2.2.toNat).1)
theorem Gk.succ {l : List Vtx} {k : Nat} (h : Gk l k) (h1 : Ck1 l k) (h2 : Ck2 l k) : Gk l (k + 1) := by
 obtain ⟨a1, a2, a3, a4, a5, a6, a7, a8⟩ := h1
 obtain ⟨b1, b2⟩ := h2
 refine ⟨fun j j1 j2 => ?_, fun j j1 j2 => ?_, fun j j1 j2 => ?_, fun j j1 j2 => ?_, fun j j1 j2 => ?_, fun j j1 j2 => ?_, fun i j i1 ij j2 => ?_⟩ <;> by_cases e : j = k
 ·subst e; exact ⟨a1, a2⟩
 ·exact h.var j j1 (by omega)
 ·subst e; exact ⟨a3, a5⟩
 ·exact h.lo j j1 (by omega)
 ·subst e; exact ⟨a4, a6⟩
 ·exact h.hi j j1 (by omega)
 ·subst e; exact a7
 ·exact h.ne j j1 (by omega)
 ·subst e; exact b1
 ·exact h.olo j j1 (by omega)
 ·subst e; exact b2
 ·exact h.ohi j j1 (by omega)
 ·subst e; exact a8 i i1 ij
 ·exact h.uq i j i1 ij (by omega)
theorem Gk.ck1 {l : List Vtx} {k : Nat} (h : Gk l (k + 1)) (h2 : 2 ≤ k) : Ck1 l k :=
 ⟨(h.var k h2 (by omega)).1, (h.var k h2 (by omega)).2, (h.lo k h2 (by omega)).1, (h.hi k h2 (by omega)).1, (h.lo k h2 (by omega)).2, (h.hi k h2 (by omega)).2, h.ne k h2 (by omega), fun j j1 j2 => h.uq j k j1 j2 (by omega)⟩
theorem Gk.ck2 {l : List Vtx} {k : Nat} (h : Gk l (k + 1)) (h2 : 2 ≤ k) : Ck2 l k := ⟨h.olo k h2 (by omega), h.ohi k h2 (by omega)⟩
def seen (l : List Vtx) (k : Nat) : List Vtx := (l.take k).drop 2
theorem mem_seen {l : List Vtx} {k : Nat} (hk : k ≤ l.length) {v : Vtx} : v ∈ seen l k ↔ ∃ j, 2 ≤ j ∧ j < k ∧ vx l j = v := by
 unfold seen
 constructor
 ·intro h
  obtain ⟨i, hi, rfl⟩ := List.getElem_of_mem h
  simp only [List.length_drop, List.length_take] at hi
  refine ⟨i + 2, by omega, by omega, ?_⟩
  rw [List.getElem_drop, List.getElem_take]
  have : i + 2 < l.length := by omega
  simp [vx, this, Nat.add_comm]
 ·rintro ⟨j, h1, h2, rfl⟩
  have hj : j < l.length := by omega
  have : j - 2 < ((l.take k).drop 2).length := by simp; omega
  have e : ((l.take k).drop 2)[j - 2] = vx l j := by
   rw [List.getElem_drop, List.getElem_take]
   simp only [vx, List.getD_eq_getElem?_getD, show 2 + (j - 2) = j by omega, List.getElem?_eq_getElem hj, Option.getD_some]
  rw [← e]; exact List.getElem_mem _
def seenG (l : List Vtx) (k : Nat) : Vtx → Option Value := fun v => if v ∈ seen l k then some (.bool true) else none
theorem seenG_s {l : List Vtx} {k : Nat} (h2 : 2 ≤ k) (hk : k < l.length) : mset (seenG l k) (vx l k) (.bool true) = seenG l (k + 1) := by
 funext v
 unfold mset seenG
 have h1 := mem_seen (l := l) (k := k) (by omega) (v := v)
 have h3 := mem_seen (l := l) (k := k + 1) (by omega) (v := v)
 by_cases e : v = vx l k
 ·rw [if_pos e, if_pos (h3.2 ⟨k, h2, by omega, e.symm⟩)]
 ·rw [if_neg e]
  by_cases m : v ∈ seen l k
  ·obtain ⟨j, j1, j2, j3⟩ := h1.1 m
   rw [if_pos m, if_pos (h3.2 ⟨j, j1, by omega, j3⟩)]
  ·rw [if_neg m, if_neg (fun h => ?_)]
   obtain ⟨j, j1, j2, j3⟩ := h3.1 h
   by_cases ej : j = k
   ·subst ej; exact e j3.symm
   ·exact m (h1.2 ⟨j, j1, by omega, j3⟩)
def enc3 (v : Vtx) : Value := .agg #[.int .i64 v.1, .int .i64 v.2.1, .int .i64 v.2.2]
theorem ckV (b : Bool) (x y z : Int) : still Tryz.prog (Instr.checkKey b 10000 54 (.agg #[.int .i64 x, .int .i64 y, .int .i64 z])) = some () := by kernel_rfl
theorem keyV : Keyed Tryz.prog 54 enc3 := by
 refine ⟨fun k => rfl, fun b k => ckV b _ _ _, Or.inr ⟨_, Tryz.underlying54, fun a b => rfl, fun a b => ?_⟩, fun k => ?_⟩
 ·exact eqf40 _ _ _ _ _ _
 ·simp [enc3, Instr.sameBits]
theorem mkB' (N : Nat) (hN : N ≤ 1000000) (id : Nat) : vMake Tryz.prog 63 (.int .i64 N) (.int .i64 N) id = some (.slice (some ⟨id, 0, none⟩) N N, .cells ((tab N fun _ => false).map Value.bool) (rowMeta 1)) := by
 have h := mk_eq (P := Tryz.prog) (t := 63) (id := id) (n := N) Tryz.underlying63 if4 (by omega) (by omega) rfl rfl (by omega)
 rw [show (Value.cells (.bool false)).toList = [.bool false] from rfl, zeros_false, tab_zero] at h
 exact h
theorem bs58_2 (id : Nat) (a b : Int) : vBuildS Tryz.prog 71 2 #[(0, .int .i64 a), (1, .int .i64 b)] id = some (.slice (some ⟨id, 0, none⟩) 2 2, .cells [.int .i64 a, .int .i64 b] (rowMeta 1)) := by kernel_rfl
theorem slice_2 {σ : St} {id off n c : Nat} {row : List Value} {m : Mta} (h2 : 2 ≤ n) (hr : σ.row id = some (row, m3 m)) :
    ∃ sv, aslice Tryz.prog σ 39 (.slice (some ⟨id, off, none⟩) n c) (some (.int .i64 2)) none none = some sv ∧ alen Tryz.prog 39 sv = some (.int .i64 ((n - 2 : Nat) : Int)) ∧ (2 < n → ∃ c', sv = .slice (some ⟨id, off + 6, none⟩) (n - 2) c') := by
 by_cases h : 2 < n
 ·obtain ⟨c', hc⟩ := slice_in (P := Tryz.prog) (σ := σ) (t := 39) (id := id) (off := off) (len := n) (c := c) (lo := some (.int .i64 2)) (hi := none) (l := some 2) (h := none) Tryz.underlying39 sz54 hr rfl rfl rfl (by simp) (by simp; omega) (by simp)
  refine ⟨_, hc, ?_, fun _ => ⟨c', ?_⟩⟩
  ·rw [ln39]; simp
  ·simp
 ·obtain rfl : n = 2 := by omega
  have hz' : rowZ σ id 3 = true := by simp [rowZ, hr, nbeq]
  have hm0 : intOpt (none : Option Value) = some none := rfl
  have hl0 : intOpt (some (.int .i64 2)) = some (some 2) := rfl
  by_cases hc : c = 2
  ·subst hc
   refine ⟨.slice (some ⟨id, off, none⟩) 0 0, ?_, by rw [ln39], fun h => by omega⟩
   simp [aslice, Tryz.underlying39, sz54, hl0, hm0, hz', nbeq]
  ·refine ⟨emptyS, ?_, by unfold emptyS; rw [ln39], fun h => by omega⟩
   simp [aslice, Tryz.underlying39, sz54, hl0, hm0, hz', nbeq, hc]
theorem lkV {σ : St} {id : Nat} {l : List Vtx} {k : Nat} (h : MP enc3 σ id (seenG l k)) (v : Vtx) : alookup Tryz.prog σ 104 (.map (some id)) (.agg #[.int .i64 v.1, .int .i64 v.2.1, .int .i64 v.2.2]) false = some (.bool (decide (v ∈ seen l k))) := by
 by_cases hv : v ∈ seen l k
 ·have := lookup_some keyV Tryz.underlying104 h (k := v) (v := .bool true) (by simp [seenG, hv]) false
  rw [decide_eq_true hv]; exact this
 ·have := lookup_none keyV Tryz.underlying104 h (k := v) (by simp [seenG, hv]) (z := .bool false) (by kernel_rfl) rfl false
  rw [decide_eq_false hv]; exact this
set_option maxHeartbeats 4000000 in
theorem Valid_spec {σ : St} {a : Value} {d : List Vtx × Int} (ha : DV σ a d) (hl : d.1.length < 1000000) (hF : Fr σ) : wpc Tryz.prog 67 #[a] σ fun r σ' => (∃ b, r = .bool b ∧ (b = true ↔ ValidD d)) ∧ EX σ σ' := by
 obtain ⟨oa, ca, rfl, hA⟩ := ha.open
 obtain ⟨l, root⟩ := d
 simp only at hA hl ⊢
 refine body_go Tryz.func67 rfl ?_
 have hr := Tryz.results67
 have no : ∀ {p : Prop}, ¬ p → ((false : Bool) = true ↔ p) := fun h => ⟨(fun e => by cases e), fun e => (h e).elim⟩
 by_cases h2 : l.length < 2
 ·have hd : decide ((l.length : Int) < 2) = true := by simp; omega
  simp only [c_seq, RUNA, RUNB, zAd, zMo, zDi, zSu, zMu, zEq, zBe, zLe, zTo, fillS, wantG, vBox, Value.cells, one, putAt, TYA, hr, hd]
  refine ⟨⟨false, rfl, no fun h => by have := h.1.len; simp only at this; omega⟩, ?_⟩
  repeat first | assumption | exact EXn.refl _ _ | refine EXn.more ?_ _ | refine EXn.put ?_ (by omega) _ | refine EX.trans ?_ (by assumption)
 have hd0 : decide ((l.length : Int) < 2) = false := by simp; omega
 obtain ⟨aid, aoff, arow, am, rfl, a1, a2, a3⟩ := hA (by omega)
 have cut0 := row_cut a3 (i := 0) (by omega)
 have cut1 := row_cut a3 (i := 1) (by omega)
 simp only [Nat.zero_mul, Nat.add_zero, Nat.one_mul] at cut0 cut1
 have z0 : (0 : Int) ≤ 0 := by omega
 have z1 : (0 : Int) < (l.length : Int) := by omega
 have z2 : (0 : Int) ≤ 1 := by omega
 have z3 : (1 : Int) < (l.length : Int) := by omega
 have na : ¬ aid = σ.next := by omega
 by_cases h0 : ¬ vx l 0 = (-1, 0, 0)
 ·have v0 : veq (vx l 0).1 (vx l 0).2.1 (vx l 0).2.2 (-1) 0 0 = false := veq_f h0
  simp only [c_seq, RUNA, RUNB, zAd, zMo, zDi, zSu, zMu, zEq, zBe, zLe, zTo, fillS, wantG, vBox, Value.cells, one, putAt, TYA, hr, hd0, ia39 z0 z1, bd40, bd40_1, neq40, a2, na, cut0, v0]
  refine ⟨⟨false, rfl, no fun h => h0 h.2.1⟩, ?_⟩
  repeat first | assumption | exact EXn.refl _ _ | refine EXn.more ?_ _ | refine EXn.put ?_ (by omega) _ | refine EX.trans ?_ (by assumption)
 rw [Classical.not_not] at h0
 have v0 : veq (vx l 0).1 (vx l 0).2.1 (vx l 0).2.2 (-1) 0 0 = true := veq_t h0
 by_cases h1 : ¬ vx l 1 = (-1, 1, 1)
 ·have v1 : veq (vx l 1).1 (vx l 1).2.1 (vx l 1).2.2 (-1) 1 1 = false := veq_f h1
  simp only [c_seq, RUNA, RUNB, zAd, zMo, zDi, zSu, zMu, zEq, zBe, zLe, zTo, fillS, wantG, vBox, Value.cells, one, putAt, TYA, hr, hd0, ia39 z0 z1, ia39 z2 z3, bd40, bd40_1, neq40, a2, na, cut0, cut1, v0, v1]
  refine ⟨⟨false, rfl, no fun h => h1 h.2.2.1⟩, ?_⟩
  repeat first | assumption | exact EXn.refl _ _ | refine EXn.more ?_ _ | refine EXn.put ?_ (by omega) _ | refine EX.trans ?_ (by assumption)
 rw [Classical.not_not] at h1
 have v1 : veq (vx l 1).1 (vx l 1).2.1 (vx l 1).2.2 (-1) 1 1 = true := veq_t h1
 simp only [c_seq, RUNA, RUNB, zAd, zMo, zDi, zSu, zMu, zEq, zBe, zLe, zTo, fillS, wantG, vBox, Value.cells, one, putAt, TYA, hr, hd0, ia39 z0 z1, ia39 z2 z3, bd40, bd40_1, neq40, a2, na, cut0, cut1, v0, v1]
 obtain ⟨sv, sl1, sl2, sl3⟩ := slice_2 (c := ca) (n := l.length) (off := aoff) (by omega) a2
 have sl1' : ∀ τ : St, τ.row aid = some (arow, m3 am) → aslice Tryz.prog τ 39 (.slice (some ⟨aid, aoff, none⟩) l.length ca) (some (.int .i64 2)) none none = some sv := by
  intro τ hτ
  rw [← sl1]; unfold aslice rowZ; simp only [hτ, a2]
 have na2 : ¬ aid = σ.next + 24 := by omega
 have hsl := sl1' ((((((σ.more 2).put σ.next (AObj.cells [Value.slice (some { block := aid, off := aoff }) l.length ca, Value.int IntKind.i64 root] boxMeta)).more 4).more 18).more 2).put (σ.next + 24) (AObj.map []) |>.more 5) (by simp only [c_seq, RUNA, RUNB, zAd, zMo, zDi, zSu, zMu, zEq, zBe, zLe, zTo, fillS, wantG, vBox, Value.cells, one, putAt, k_tmp, k_val, List.append_toArray, List.nil_append, List.cons_append, mm_none, row_putm, na, na2, a2])
 simp only [c_seq, RUNA, RUNB, zAd, zMo, zDi, zSu, zMu, zEq, zBe, zLe, zTo, fillS, wantG, vBox, Value.cells, one, putAt, TYA, k_tmp, k_val, List.append_toArray, List.nil_append, List.cons_append, mm_none, row_putm, hsl, sl2]
 refine loop_go (fun m S τ => S.at 1 = .pointer (some ⟨σ.next, 0, none⟩) ∧ S.at 3 = .int .i64 l.length ∧ S.at 4 = .map (some (σ.next + 24)) ∧ S.at 37 = sv ∧ S.at 38 = .int .i64 ((l.length - 2 : Nat) : Int) ∧ EX σ τ ∧ σ.next + 24 < τ.next ∧
  τ.row σ.next = some ([.slice (some ⟨aid, aoff, none⟩) l.length ca, .int .i64 root], boxMeta) ∧
  ∃ k : Nat, S.at 39 = .int .i64 ((k - 2 : Nat) : Int) ∧ 2 ≤ k ∧ k ≤ l.length ∧ m = l.length - k ∧ Gk l k ∧ MP enc3 τ (σ.next + 24) (seenG l k)) (l.length - 2) ?_ ?_
 ·simp only [c_seq, RUNA, RUNB, zAd, zMo, zDi, zSu, zMu, zEq, zBe, zLe, zTo, fillS, wantG, vBox, Value.cells, one, putAt, k_tmp, k_val, List.append_toArray, List.nil_append, List.cons_append, mm_none, row_putm, na]
  refine ⟨?_, by omega, 2, rfl, by omega, by omega, rfl, Gk.two l, ?_⟩
  ·repeat first | assumption | exact EXn.refl _ _ | refine EXn.more ?_ _ | refine EXn.put ?_ (by omega) _ | refine EX.trans ?_ (by assumption)
  ·have : seenG l 2 = fun _ => none := by
    funext v; unfold seenG; rw [if_neg]; unfold seen; simp
   rw [this]
   exact MP.new (by simp only [c_seq, RUNA, RUNB, zAd, zMo, zDi, zSu, zMu, zEq, zBe, zLe, zTo, fillS, wantG, vBox, Value.cells, one, putAt])
 rintro _ S τ ⟨s1, s3, s4, s37, s38, hE, hx, r0, k, s39, k2, kl, rfl, hG, hM⟩
 have hn := hE.next
 have ra := (hE.row aid a1).trans a2
 by_cases hlt : k < l.length
 ·have hd : decide (((k - 2 : Nat) : Int) < ((l.length - 2 : Nat) : Int)) = true := by simp; omega
  have hk2 : IntKind.i64.wrap (((k - 2 : Nat) : Int) + 2) = (k : Int) := by rw [wrap64 (by omega) (by omega)]; omega
  obtain ⟨c', rfl⟩ := sl3 (by omega)
  have y0 : (0 : Int) ≤ ((k - 2 : Nat) : Int) := by omega
  have y1 : ((k - 2 : Nat) : Int) < ((l.length - 2 : Nat) : Int) := by omega
  have ck : cut arow (aoff + (6 + (k - 2) * 3)) 3 = some [.int .i64 (vx l k).1, .int .i64 (vx l k).2.1, .int .i64 (vx l k).2.2] := by
   have := row_cut a3 hlt
   rw [show aoff + (6 + (k - 2) * 3) = aoff + k * 3 by omega]; exact this
  have bad : ¬ (Ck1 l k ∧ Ck2 l k) → ∀ τ', EX σ τ' → (∃ b, (Value.bool false) = .bool b ∧ (b = true ↔ ValidD (l, root))) ∧ EX σ τ' := by
   intro h τ' e
   refine ⟨⟨false, rfl, no fun hv => h ?_⟩, e⟩
   have := (hv.1.gk).mono (m := k + 1) (by simp only; omega)
   exact ⟨this.ck1 k2, this.ck2 k2⟩
  by_cases q1 : (vx l k).1 < 0
  ·have c1 : decide ((vx l k).1 < 0) = true := decide_eq_true q1
   simp only [c_seq, RUNA, RUNB, zAd, zMo, zDi, zSu, zMu, zEq, zBe, zLe, zTo, fillS, wantG, vBox, Value.cells, one, putAt, TYA, k_tmp, k_val, List.append_toArray, List.nil_append, List.cons_append, mm_none, row_putm, s1, s3, s4, s37, s38, s39, hd, hk2, ia39 y0 y1, ra, ck, r0, hr, c1]
   refine bad (fun h => by have := h.1.1; omega) _ ?_
   repeat first | assumption | exact EXn.refl _ _ | refine EXn.more ?_ _ | refine EXn.put ?_ (by omega) _ | refine EX.trans ?_ (by assumption)
  have c1 : decide ((vx l k).1 < 0) = false := decide_eq_false q1
  by_cases q2 : 10 ≤ (vx l k).1
  ·have c2 : decide (10 ≤ (vx l k).1) = true := decide_eq_true q2
   simp only [c_seq, RUNA, RUNB, zAd, zMo, zDi, zSu, zMu, zEq, zBe, zLe, zTo, fillS, wantG, vBox, Value.cells, one, putAt, TYA, k_tmp, k_val, List.append_toArray, List.nil_append, List.cons_append, mm_none, row_putm, s1, s3, s4, s37, s38, s39, hd, hk2, ia39 y0 y1, ra, ck, r0, hr, c1, c2]
   refine bad (fun h => by have := h.1.2.1; omega) _ ?_
   repeat first | assumption | exact EXn.refl _ _ | refine EXn.more ?_ _ | refine EXn.put ?_ (by omega) _ | refine EX.trans ?_ (by assumption)
  have c2 : decide (10 ≤ (vx l k).1) = false := decide_eq_false q2
  by_cases q3 : (vx l k).2.1 < 0
  ·have c3 : decide ((vx l k).2.1 < 0) = true := decide_eq_true q3
   simp only [c_seq, RUNA, RUNB, zAd, zMo, zDi, zSu, zMu, zEq, zBe, zLe, zTo, fillS, wantG, vBox, Value.cells, one, putAt, TYA, k_tmp, k_val, List.append_toArray, List.nil_append, List.cons_append, mm_none, row_putm, s1, s3, s4, s37, s38, s39, hd, hk2, ia39 y0 y1, ra, ck, r0, hr, c1, c2, c3]
   refine bad (fun h => by have := h.1.2.2.1; omega) _ ?_
   repeat first | assumption | exact EXn.refl _ _ | refine EXn.more ?_ _ | refine EXn.put ?_ (by omega) _ | refine EX.trans ?_ (by assumption)
  have c3 : decide ((vx l k).2.1 < 0) = false := decide_eq_false q3
  by_cases q4 : (vx l k).2.2 < 0
  ·have c4 : decide ((vx l k).2.2 < 0) = true := decide_eq_true q4
   simp only [c_seq, RUNA, RUNB, zAd, zMo, zDi, zSu, zMu, zEq, zBe, zLe, zTo, fillS, wantG, vBox, Value.cells, one, putAt, TYA, k_tmp, k_val, List.append_toArray, List.nil_append, List.cons_append, mm_none, row_putm, s1, s3, s4, s37, s38, s39, hd, hk2, ia39 y0 y1, ra, ck, r0, hr, c1, c2, c3, c4]
   refine bad (fun h => by have := h.1.2.2.2.1; omega) _ ?_
   repeat first | assumption | exact EXn.refl _ _ | refine EXn.more ?_ _ | refine EXn.put ?_ (by omega) _ | refine EX.trans ?_ (by assumption)
  have c4 : decide ((vx l k).2.2 < 0) = false := decide_eq_false q4
  by_cases q5 : (k : Int) ≤ (vx l k).2.1
  ·have c5 : decide ((k : Int) ≤ (vx l k).2.1) = true := decide_eq_true q5
   simp only [c_seq, RUNA, RUNB, zAd, zMo, zDi, zSu, zMu, zEq, zBe, zLe, zTo, fillS, wantG, vBox, Value.cells, one, putAt, TYA, k_tmp, k_val, List.append_toArray, List.nil_append, List.cons_append, mm_none, row_putm, s1, s3, s4, s37, s38, s39, hd, hk2, ia39 y0 y1, ra, ck, r0, hr, c1, c2, c3, c4, c5]
   refine bad (fun h => by have := h.1.2.2.2.2.1; omega) _ ?_
   repeat first | assumption | exact EXn.refl _ _ | refine EXn.more ?_ _ | refine EXn.put ?_ (by omega) _ | refine EX.trans ?_ (by assumption)
  have c5 : decide ((k : Int) ≤ (vx l k).2.1) = false := decide_eq_false q5
  by_cases q6 : (k : Int) ≤ (vx l k).2.2
  ·have c6 : decide ((k : Int) ≤ (vx l k).2.2) = true := decide_eq_true q6
   simp only [c_seq, RUNA, RUNB, zAd, zMo, zDi, zSu, zMu, zEq, zBe, zLe, zTo, fillS, wantG, vBox, Value.cells, one, putAt, TYA, k_tmp, k_val, List.append_toArray, List.nil_append, List.cons_append, mm_none, row_putm, s1, s3, s4, s37, s38, s39, hd, hk2, ia39 y0 y1, ra, ck, r0, hr, c1, c2, c3, c4, c5, c6]
   refine bad (fun h => by have := h.1.2.2.2.2.2.1; omega) _ ?_
   repeat first | assumption | exact EXn.refl _ _ | refine EXn.more ?_ _ | refine EXn.put ?_ (by omega) _ | refine EX.trans ?_ (by assumption)
  have c6 : decide ((k : Int) ≤ (vx l k).2.2) = false := decide_eq_false q6
  by_cases q7 : (vx l k).2.1 = (vx l k).2.2
  ·have c7 : ((vx l k).2.1 == (vx l k).2.2) = true := by simp [q7]
   simp only [c_seq, RUNA, RUNB, zAd, zMo, zDi, zSu, zMu, zEq, zBe, zLe, zTo, fillS, wantG, vBox, Value.cells, one, putAt, TYA, k_tmp, k_val, List.append_toArray, List.nil_append, List.cons_append, mm_none, row_putm, s1, s3, s4, s37, s38, s39, hd, hk2, ia39 y0 y1, ra, ck, r0, hr, c1, c2, c3, c4, c5, c6, c7]
   refine bad (fun h => h.1.2.2.2.2.2.2.1 q7) _ ?_
   repeat first | assumption | exact EXn.refl _ _ | refine EXn.more ?_ _ | refine EXn.put ?_ (by omega) _ | refine EX.trans ?_ (by assumption)
  have c7 : ((vx l k).2.1 == (vx l k).2.2) = false := by simp [q7]
  simp only [c_seq, RUNA, RUNB, zAd, zMo, zDi, zSu, zMu, zEq, zBe, zLe, zTo, fillS, wantG, vBox, Value.cells, one, putAt, TYA, k_tmp, k_val, List.append_toArray, List.nil_append, List.cons_append, mm_none, row_putm, s1, s3, s4, s37, s38, s39, hd, hk2, ia39 y0 y1, ra, ck, r0, hr, c1, c2, c3, c4, c5, c6, c7]
  have e4 : ¬ σ.next + 24 = τ.next + 4 := by omega
  have e5 : ¬ σ.next = τ.next + 4 := by omega
  have e6 : ¬ aid = τ.next + 4 := by omega
  refine ex1_of ((lk_get (τ := τ) ?_).trans (lkV hM (vx l k))) ?_
  ·simp only [c_seq, RUNA, RUNB, zAd, zMo, zDi, zSu, zMu, zEq, zBe, zLe, zTo, fillS, wantG, vBox, Value.cells, one, putAt, e4]
  by_cases q8 : vx l k ∈ seen l k
  ·rw [decide_eq_true q8]
   simp only [c_seq, RUNA, RUNB, zAd, zMo, zDi, zSu, zMu, zEq, zBe, zLe, zTo, fillS, wantG, vBox, Value.cells, one, putAt, TYA, k_tmp, k_val, List.append_toArray, List.nil_append, List.cons_append, mm_none, row_putm, hr]
   refine bad (fun h => ?_) _ ?_
   ·obtain ⟨j, j1, j2, j3⟩ := (mem_seen (by omega)).1 q8
    exact h.1.2.2.2.2.2.2.2 j j1 j2 j3
   ·repeat first | assumption | exact EXn.refl _ _ | refine EXn.more ?_ _ | refine EXn.put ?_ (by omega) _ | refine EX.trans ?_ (by assumption)
  rw [decide_eq_false q8]
  have hC1 : Ck1 l k := ⟨by omega, by omega, by omega, by omega, by omega, by omega, q7, fun j j1 j2 j3 => q8 ((mem_seen (by omega)).2 ⟨j, j1, j2, j3⟩)⟩
  simp only [c_seq, RUNA, RUNB, zAd, zMo, zDi, zSu, zMu, zEq, zBe, zLe, zTo, fillS, wantG, vBox, Value.cells, one, putAt, TYA, k_tmp, k_val, List.append_toArray, List.nil_append, List.cons_append, mm_none, row_putm, s4]
  refine update_ex keyV Tryz.underlying104 hM ?_ (k := vx l k) rfl ?_
  ·simp only [c_seq, RUNA, RUNB, zAd, zMo, zDi, zSu, zMu, zEq, zBe, zLe, zTo, fillS, wantG, vBox, Value.cells, one, putAt, e4]
  intro es' hM'
  rw [seenG_s k2 hlt] at hM'
  have e7 : ¬ τ.next + 4 = σ.next + 24 := by omega
  have e8 : ¬ σ.next = σ.next + 24 := by omega
  have e9 : ¬ aid = σ.next + 24 := by omega
  simp only [c_seq, RUNA, RUNB, zAd, zMo, zDi, zSu, zMu, zEq, zBe, zLe, zTo, fillS, wantG, vBox, Value.cells, one, putAt, TYA, k_tmp, k_val, List.append_toArray, List.nil_append, List.cons_append, mm_none, row_putm, e7, bs58_2]
  have hl2 : ∀ j, j < 2 → (([Value.int .i64 (vx l k).2.1, Value.int .i64 (vx l k).2.2] : List Value))[j]? = some (.int .i64 (if j = 0 then (vx l k).2.1 else (vx l k).2.2)) := by
   intro j hj
   obtain rfl | rfl : j = 0 ∨ j = 1 := by omega
   ·rfl
   ·rfl
  refine loop_go (fun m S τ' => S.at 1 = .pointer (some ⟨σ.next, 0, none⟩) ∧ S.at 3 = .int .i64 l.length ∧ S.at 4 = .map (some (σ.next + 24)) ∧ S.at 37 = .slice (some ⟨aid, aoff + 6, none⟩) (l.length - 2) c' ∧ S.at 38 = .int .i64 ((l.length - 2 : Nat) : Int) ∧ S.at 39 = .int .i64 ((k - 2 : Nat) : Int) ∧ S.at 6 = .pointer (some ⟨τ.next + 4, 0, none⟩) ∧
   S.at 94 = .slice (some ⟨τ.next + 59, 0, none⟩) 2 2 ∧ S.at 95 = .int .i64 ((2 : Nat) : Int) ∧ EX σ τ' ∧ τ.next + 59 < τ'.next ∧
   τ'.row σ.next = some ([.slice (some ⟨aid, aoff, none⟩) l.length ca, .int .i64 root], boxMeta) ∧ τ'.row (τ.next + 4) = some ([.int .i64 (vx l k).1, .int .i64 (vx l k).2.1, .int .i64 (vx l k).2.2], boxMeta) ∧
   τ'.row (τ.next + 59) = some ([.int .i64 (vx l k).2.1, .int .i64 (vx l k).2.2], rowMeta 1) ∧ MP enc3 τ' (σ.next + 24) (seenG l (k + 1)) ∧
   ∃ j : Nat, S.at 96 = .int .i64 j ∧ j ≤ 2 ∧ m = 2 - j ∧ ∀ p, p < j → 1 < (if p = 0 then (vx l k).2.1 else (vx l k).2.2) → (vx l k).1 < (vx l (if p = 0 then (vx l k).2.1 else (vx l k).2.2).toNat).1) 2 ?_ ?_
  ·simp only [c_seq, RUNA, RUNB, zAd, zMo, zDi, zSu, zMu, zEq, zBe, zLe, zTo, fillS, wantG, vBox, Value.cells, one, putAt, TYA, k_tmp, k_val, List.append_toArray, List.nil_append, List.cons_append, mm_none, row_putm, s1, s3, s4, s37, s38, s39, e4, e5, e6, e7, e8, e9, r0]
   have e10 : ¬ σ.next + 24 = τ.next + 59 := by omega
   refine ⟨?_, by omega, by rw [if_neg (by omega)], hM'.of ?_, 0, rfl, by omega, by omega, fun p hp => by omega⟩
   ·repeat first | assumption | exact EXn.refl _ _ | refine EXn.more ?_ _ | refine EXn.put ?_ (by omega) _ | refine EX.trans ?_ (by assumption)
   ·simp only [c_seq, RUNA, RUNB, zAd, zMo, zDi, zSu, zMu, zEq, zBe, zLe, zTo, fillS, wantG, vBox, Value.cells, one, putAt, e10]
  clear s1 s3 s4 s37 s38 s39 hM'
  rintro _ S τ' ⟨s1, s3, s4, s37, s38, s39, s6, s94, s95, hE', hx', r0', rx, rl, hM', j, s96, hj, rfl, hch⟩
  have hk3 : IntKind.i64.wrap (((k - 2 : Nat) : Int) + 1) = ((k + 1 - 2 : Nat) : Int) := by rw [wrap64 (by omega) (by omega)]; omega
  by_cases hj2 : j < 2
  ·have hdj : decide ((j : Int) < ((2 : Nat) : Int)) = true := by simp; omega
   have w0 : (0 : Int) ≤ (j : Int) := by omega
   have w1 : (j : Int) < ((2 : Nat) : Int) := by omega
   have hwj : IntKind.i64.wrap ((j : Int) + 1) = ((j + 1 : Nat) : Int) := by rw [wrap64 (by omega) (by omega)]; rfl
   have hcv := hl2 j hj2
   obtain ⟨ch, hch'⟩ : ∃ ch, ch = (if j = 0 then (vx l k).2.1 else (vx l k).2.2) := ⟨_, rfl⟩
   rw [← hch'] at hcv
   have hc0 : 0 ≤ ch ∧ ch < (k : Int) := by
    rw [hch']; split <;> omega
   simp only [c_seq, RUNA, RUNB, zAd, zMo, zDi, zSu, zMu, zEq, zBe, zLe, zTo, fillS, wantG, vBox, Value.cells, one, putAt, TYA, k_tmp, k_val, List.append_toArray, List.nil_append, List.cons_append, mm_none, row_putm, s94, s95, s96, hdj, ia71 w0 w1, rl, hcv]
   refine d_go (ms := [0, 1, 3, 7, 15, 7, 63, 127, 255, 7, 519, 2047, 4095]) (order := [0, 1, 2, 3, 4, 5, 6, 7, 8, 9, 10, 11, 12]) (by kernel_rfl) (by kernel_rfl) (by kernel_rfl) (by kernel_rfl) ?_
   have ra' := (hE'.row aid a1).trans a2
   by_cases hc1 : 1 < ch
   ·have d1 : decide (1 < ch) = true := decide_eq_true hc1
    have u0 : 0 ≤ ch := hc0.1
    have u1 : ch < (l.length : Int) := by omega
    have fa := flat_at0 a3 (k := ch.toNat) (by omega)
    by_cases hv : (vx l ch.toNat).1 ≤ (vx l k).1
    ·have d2 : decide ((vx l ch.toNat).1 ≤ (vx l k).1) = true := decide_eq_true hv
     simp only [YRUNA, YRUNB, zSh, bit, c_seq, RUNA, RUNB, zAd, zMo, zDi, zSu, zMu, zEq, zBe, zLe, zTo, fillS, wantG, vBox, Value.cells, one, putAt, TYA, k_tmp, k_val, List.append_toArray, List.nil_append, List.cons_append, mm_none, row_putm, s1, s6, s96, d1, d2, ia39 u0 u1, r0', rx, ra', fa, hr]
     refine bad (fun h => ?_) _ ?_
     ·have h2 := h.2
      unfold Ck2 at h2
      rw [hch'] at hc1 hv
      split at hc1
      ·rename_i e; rw [if_pos e] at hv; have := h2.1 hc1; omega
      ·rename_i e; rw [if_neg e] at hv; have := h2.2 hc1; omega
     ·repeat first | assumption | exact EXn.refl _ _ | refine EXn.more ?_ _ | refine EXn.put ?_ (by omega) _ | refine EX.trans ?_ (by assumption)
    ·have d2 : decide ((vx l ch.toNat).1 ≤ (vx l k).1) = false := decide_eq_false hv
     simp only [YRUNA, YRUNB, zSh, bit, c_seq, RUNA, RUNB, zAd, zMo, zDi, zSu, zMu, zEq, zBe, zLe, zTo, fillS, wantG, vBox, Value.cells, one, putAt, TYA, k_tmp, k_val, List.append_toArray, List.nil_append, List.cons_append, mm_none, row_putm, s1, s3, s4, s37, s38, s39, s6, s94, s95, s96, d1, d2, ia39 u0 u1, r0', rx, ra', fa, rl, hwj]
     refine ⟨2 - (j + 1), by omega, ?_, by omega, hM'.of (by simp only [c_seq, RUNA, RUNB, zAd, zMo, zDi, zSu, zMu, zEq, zBe, zLe, zTo, fillS, wantG, vBox, Value.cells, one, putAt]), j + 1, rfl, by omega, rfl, fun p hp h => ?_⟩
     ·repeat first | assumption | exact EXn.refl _ _ | refine EXn.more ?_ _ | refine EXn.put ?_ (by omega) _ | refine EX.trans ?_ (by assumption)
     ·by_cases hpj : p = j
      ·subst hpj; rw [← hch'] at h ⊢; omega
      ·exact hch p (by omega) h
   ·have d1 : decide (1 < ch) = false := decide_eq_false hc1
    simp only [YRUNA, YRUNB, zSh, bit, c_seq, RUNA, RUNB, zAd, zMo, zDi, zSu, zMu, zEq, zBe, zLe, zTo, fillS, wantG, vBox, Value.cells, one, putAt, TYA, k_tmp, k_val, List.append_toArray, List.nil_append, List.cons_append, mm_none, row_putm, s1, s3, s4, s37, s38, s39, s6, s94, s95, s96, d1, r0', rx, rl, hwj]
    refine ⟨2 - (j + 1), by omega, ?_, by omega, hM'.of (by simp only [c_seq, RUNA, RUNB, zAd, zMo, zDi, zSu, zMu, zEq, zBe, zLe, zTo, fillS, wantG, vBox, Value.cells, one, putAt]), j + 1, rfl, by omega, rfl, fun p hp h => ?_⟩
    ·repeat first | assumption | exact EXn.refl _ _ | refine EXn.more ?_ _ | refine EXn.put ?_ (by omega) _ | refine EX.trans ?_ (by assumption)
    ·by_cases hpj : p = j
     ·subst hpj; rw [← hch'] at h; exact (hc1 h).elim
     ·exact hch p (by omega) h
  ·have hdj : decide ((j : Int) < ((2 : Nat) : Int)) = false := by simp; omega
   simp only [c_seq, RUNA, RUNB, zAd, zMo, zDi, zSu, zMu, zEq, zBe, zLe, zTo, fillS, wantG, vBox, Value.cells, one, putAt, TYA, k_tmp, k_val, List.append_toArray, List.nil_append, List.cons_append, mm_none, row_putm, s1, s3, s4, s37, s38, s39, s6, s94, s95, s96, hdj, hk3]
   refine ⟨l.length - (k + 1), by omega, ?_, by omega, r0', k + 1, rfl, by omega, by omega, rfl, hG.succ hC1 ?_, hM'.of (by simp only [c_seq, RUNA, RUNB, zAd, zMo, zDi, zSu, zMu, zEq, zBe, zLe, zTo, fillS, wantG, vBox, Value.cells, one, putAt])⟩
   ·repeat first | assumption | exact EXn.refl _ _ | refine EXn.more ?_ _ | refine EXn.put ?_ (by omega) _ | refine EX.trans ?_ (by assumption)
   ·refine ⟨fun h => ?_, fun h => ?_⟩
    ·exact hch 0 (by omega) h
    ·exact hch 1 (by omega) h
 ·have hd : decide (((k - 2 : Nat) : Int) < ((l.length - 2 : Nat) : Int)) = false := by simp; omega
  obtain rfl : k = l.length := by omega
  have hGd : Gd l := hG.gd (by omega)
  by_cases hn2 : l.length = 2
  ·have g2 : ((l.length : Int) == 2) = true := by simp; omega
   have vd : (root = 0 ∨ root = 1) ↔ ValidD (l, root) := by
    constructor
    ·intro h; exact ⟨hGd, h0, h1, Or.inl ⟨hn2, h⟩⟩
    ·rintro ⟨_, _, _, ⟨_, h⟩ | ⟨h, _⟩⟩
     ·exact h
     ·simp only at h; omega
   by_cases hr0 : root = 0
   ·have g3 : (root == 0) = true := by simp [hr0]
    simp only [c_seq, RUNA, RUNB, zAd, zMo, zDi, zSu, zMu, zEq, zBe, zLe, zTo, fillS, wantG, vBox, Value.cells, one, putAt, TYA, k_tmp, k_val, List.append_toArray, List.nil_append, List.cons_append, mm_none, row_putm, s1, s3, s4, s37, s38, s39, hd, g2, r0, g3, hr]
    refine ⟨⟨true, rfl, ?_⟩, ?_⟩
    ·rw [← vd]; simp [hr0]
    ·repeat first | assumption | exact EXn.refl _ _ | refine EXn.more ?_ _ | refine EXn.put ?_ (by omega) _ | refine EX.trans ?_ (by assumption)
   ·have g3 : (root == 0) = false := by simp [hr0]
    simp only [c_seq, RUNA, RUNB, zAd, zMo, zDi, zSu, zMu, zEq, zBe, zLe, zTo, fillS, wantG, vBox, Value.cells, one, putAt, TYA, k_tmp, k_val, List.append_toArray, List.nil_append, List.cons_append, mm_none, row_putm, s1, s3, s4, s37, s38, s39, hd, g2, r0, g3, hr]
    refine ⟨⟨_, rfl, ?_⟩, ?_⟩
    ·rw [← vd]; simp [hr0]
    ·repeat first | assumption | exact EXn.refl _ _ | refine EXn.more ?_ _ | refine EXn.put ?_ (by omega) _ | refine EX.trans ?_ (by assumption)
  ·have g2 : ((l.length : Int) == 2) = false := by simp; omega
   have hw1 : IntKind.i64.wrap ((l.length : Int) - 1) = ((l.length - 1 : Nat) : Int) := by rw [wrap64 (by omega) (by omega)]; omega
   by_cases hrt : root = ((l.length - 1 : Nat) : Int)
   ·have g3 : (root != ((l.length - 1 : Nat) : Int)) = false := by simp [hrt]
    obtain ⟨T, hT, hTo⟩ := Rep.ex hGd (l.length - 1) (by omega)
    rw [← hrt] at hT
    have hle0 : 0 + 1 ≤ ((tab l.length fun _ => false).map Value.bool).length := by rw [List.length_map, tab_len]; omega
    have hle1 : 1 + 1 ≤ (((tab l.length fun _ => false).map Value.bool).set 0 (.bool true)).length := by rw [List.length_set, List.length_map, tab_len]; omega
    simp only [Nat.zero_add, zAd] at hle0 hle1
    simp only [c_seq, RUNA, RUNB, zAd, zMo, zDi, zSu, zMu, zEq, zBe, zLe, zTo, fillS, wantG, vBox, Value.cells, one, putAt, TYA, k_tmp, k_val, List.append_toArray, List.nil_append, List.cons_append, mm_none, row_putm, s1, s3, s4, s37, s38, s39, hd, g2, r0, hw1, g3, mkB' l.length (by omega)]
    refine d_go (ms := [0, 0, 1, 5, 15, 31]) (order := [0, 1, 2, 3, 4, 5]) (by kernel_rfl) (by kernel_rfl) (by kernel_rfl) (by kernel_rfl) ?_
    have f9 : ¬ σ.next = τ.next + 9 := by omega
    have h9 : ¬ aid = τ.next + 9 := by omega
    have f10 : ¬ σ.next = τ.next + 10 := by omega
    have h10 : ¬ aid = τ.next + 10 := by omega
    have f18 : ¬ σ.next = τ.next + 18 := by omega
    have h18 : ¬ aid = τ.next + 18 := by omega
    have f20 : ¬ σ.next = τ.next + 20 := by omega
    have h20 : ¬ aid = τ.next + 20 := by omega
    have f22 : ¬ σ.next = τ.next + 22 := by omega
    have h22 : ¬ aid = τ.next + 22 := by omega
    simp only [YRUNA, YRUNB, zSh, bit, c_seq, RUNA, RUNB, zAd, zMo, zDi, zSu, zMu, zEq, zBe, zLe, zTo, fillS, wantG, vBox, Value.cells, one, putAt, TYA, k_tmp, k_val, List.append_toArray, List.nil_append, List.cons_append, mm_none, row_putm, s1, s3, s4, ia63 z0 z1, ia63 z2 z3, hle0, hle1, f9, h9, f10, h10, f18, h18, f20, h20, f22, h22, r0]
    have tset : (((tab l.length fun _ => false).map Value.bool).set 0 (.bool true)).set 1 (.bool true) = (tab l.length fun j => decide (j < 2)).map Value.bool := by
     rw [← List.map_set, ← List.map_set, tab_set, tab_set]
     congr 1
     refine tab_congr fun j _ => ?_
     by_cases e1 : j = 1
     ·subst e1; rfl
     ·by_cases e0 : j = 0
      ·subst e0; rfl
      ·rw [if_neg e1, if_neg e0, decide_eq_false (by omega)]
    refine wpc_mono (visitV σ.next σ.next (τ.next + 9) (τ.next + 10) (τ.next + 18) (τ.next + 20) (τ.next + 22) aid aoff ca l root hGd hl a1 (Nat.le_refl _) (by omega) (by omega) (by omega) (by omega) (by omega) T root _ true 2 (tab l.length fun j => decide (j < 2)) hT ?_ (fun _ => ⟨2, rfl, by omega, by omega, rfl⟩)) ?_
    ·have hFt := hE.fr hF
     refine ⟨by repeat first | assumption | refine Fr.more ?_ _ | refine Fr.put ?_ _ _, by first | omega | (simp only [next_more, next_put] at *; omega), tab_len _ _, ?_, ?_, ?_, ?_, ?_, ?_, ⟨arow, m3 am, ?_, a3⟩⟩
     ·simp only [c_seq, RUNA, RUNB, zAd, zMo, zDi, zSu, zMu, zEq, zBe, zLe, zTo, fillS, wantG, vBox, Value.cells, one, putAt]
     ·simp only [c_seq, RUNA, RUNB, zAd, zMo, zDi, zSu, zMu, zEq, zBe, zLe, zTo, fillS, wantG, vBox, Value.cells, one, putAt, tset]
     ·simp only [c_seq, RUNA, RUNB, zAd, zMo, zDi, zSu, zMu, zEq, zBe, zLe, zTo, fillS, wantG, vBox, Value.cells, one, putAt]
     ·simp only [c_seq, RUNA, RUNB, zAd, zMo, zDi, zSu, zMu, zEq, zBe, zLe, zTo, fillS, wantG, vBox, Value.cells, one, putAt]
     ·simp only [c_seq, RUNA, RUNB, zAd, zMo, zDi, zSu, zMu, zEq, zBe, zLe, zTo, fillS, wantG, vBox, Value.cells, one, putAt, f9, h9, f10, h10, f18, h18, f20, h20, f22, h22, r0]
     ·simp only [c_seq, RUNA, RUNB, zAd, zMo, zDi, zSu, zMu, zEq, zBe, zLe, zTo, fillS, wantG, vBox, Value.cells, one, putAt]
     ·simp only [c_seq, RUNA, RUNB, zAd, zMo, zDi, zSu, zMu, zEq, zBe, zLe, zTo, fillS, wantG, vBox, Value.cells, one, putAt, f9, h9, f10, h10, f18, h18, f20, h20, f22, h22, ra]
    rintro r σ2 ⟨ok', nx', left', hB, hI, ⟨_, hP⟩, hE2⟩
    have hP' := hP rfl 2 rfl
    have n2 := hE2.next
    simp only [next_more, next_put] at n2
    have hlt2 := hB.lt
    have vd : (pvT l T root 2 = some l.length) ↔ ValidD (l, root) := by
     have hpo := pvT_ord l T root 2 hT (by omega)
     have hr0 : rng (2 - 2) = [] := rfl
     rw [hr0] at hpo
     constructor
     ·intro h
      exact ⟨hGd, h0, h1, Or.inr ⟨by simp only; omega, by simp only; omega, T, hT, (hpo.1 _ h).2⟩⟩
     ·rintro ⟨_, _, _, ⟨h, _⟩ | ⟨_, _, T', h4, h5⟩⟩
      ·simp only at h; omega
      ·have e := Rep.fn h4 hT
       subst e
       have := hpo.2 _ h5
       rwa [show l.length - 2 + 2 = l.length by omega] at this
    have eF : EX σ σ2 := by
     refine EXn.trans ?_ hE2
     repeat first | assumption | exact EXn.refl _ _ | refine EXn.more ?_ _ | refine EXn.put ?_ (by omega) _ | refine EX.trans ?_ (by assumption)
    cases hok : ok' with
    | false =>
     have rk := hB.rk
     rw [hok] at rk
     simp only [c_seq, RUNA, RUNB, zAd, zMo, zDi, zSu, zMu, zEq, zBe, zLe, zTo, fillS, wantG, vBox, Value.cells, one, putAt, TYA, k_tmp, k_val, List.append_toArray, List.nil_append, List.cons_append, mm_none, row_putm, s1, s3, rk, hr]
     refine ⟨⟨false, rfl, no fun h => ?_⟩, ?_⟩
     ·rw [← vd] at h
      rw [h] at hP'
      rw [hok] at hP'; cases hP'.1
     ·repeat first | assumption | exact EXn.refl _ _ | refine EXn.more ?_ _ | refine EXn.put ?_ (by omega) _ | refine EX.trans ?_ (by assumption)
    | true =>
     have rk := hB.rk
     rw [hok] at rk
     simp only [c_seq, RUNA, RUNB, zAd, zMo, zDi, zSu, zMu, zEq, zBe, zLe, zTo, fillS, wantG, vBox, Value.cells, one, putAt, TYA, k_tmp, k_val, List.append_toArray, List.nil_append, List.cons_append, mm_none, row_putm, s1, s3, rk, hB.rn, hr]
     refine ⟨⟨_, rfl, ?_⟩, ?_⟩
     ·rw [← vd]
      cases hp : pvT l T root 2 with
      | none => rw [hp] at hP'; rw [hok] at hP'; cases hP'
      | some m =>
       rw [hp] at hP'
       rw [hP'.2]
       simp only [beq_iff_eq, Option.some.injEq]
       omega
     ·repeat first | assumption | exact EXn.refl _ _ | refine EXn.more ?_ _ | refine EXn.put ?_ (by omega) _ | refine EX.trans ?_ (by assumption)
   ·have g3 : (root != ((l.length - 1 : Nat) : Int)) = true := by simp [hrt]
    simp only [c_seq, RUNA, RUNB, zAd, zMo, zDi, zSu, zMu, zEq, zBe, zLe, zTo, fillS, wantG, vBox, Value.cells, one, putAt, TYA, k_tmp, k_val, List.append_toArray, List.nil_append, List.cons_append, mm_none, row_putm, s1, s3, s4, s37, s38, s39, hd, g2, r0, hw1, g3, hr]
    refine ⟨⟨false, rfl, no fun h => ?_⟩, ?_⟩
    ·obtain ⟨_, _, _, ⟨h, _⟩ | ⟨h, h', _⟩⟩ := h
     ·exact hn2 h
     ·simp only at h h'; omega
    ·repeat first | assumption | exact EXn.refl _ _ | refine EXn.more ?_ _ | refine EXn.put ?_ (by omega) _ | refine EX.trans ?_ (by assumption)
end Go.Proofs.Q
namespace Go.Proofs.Q
open Go.AI
def ints (l : List Int) : List Value := l.map fun k => .int .i64 k
theorem ints_len (l : List Int) : (ints l).length = l.length := by simp [ints]
theorem ints_app (l k : List Int) : ints (l ++ k) = ints l ++ ints k := by simp [ints]
def OL (σ : St) (v : Value) (dn : List Int) (s : Nat) : Prop := (v = .slice none 0 0 ∧ dn = []) ∨ (dn ≠ [] ∧ Own σ s 1 v dn.length (ints dn))
theorem OL.mono {s : Nat} {σ τ : St} {v : Value} {dn : List Int} (h : OL σ v dn s) (e : EX σ τ) : OL τ v dn s := by
 rcases h with h | ⟨h0, h1⟩
 ·exact Or.inl h
 ·have hs : s < σ.next := by obtain ⟨k, m, _, h, _⟩ := h1; exact h
  exact Or.inr ⟨h0, h1.mono e.next (e.row s hs)⟩
theorem OL.open {s : Nat} {σ : St} {v : Value} {dn : List Int} (h : OL σ v dn s) : ∃ o c, v = .slice o dn.length c ∧ (0 < dn.length → ∃ m, o = some ⟨s, 0, none⟩ ∧ s < σ.next ∧ σ.row s = some (ints dn, m)) := by
 rcases h with ⟨rfl, rfl⟩ | ⟨h0, k, m, rfl, h1, h2, _⟩
 ·exact ⟨none, 0, rfl, fun h => by simp at h⟩
 ·exact ⟨_, k, rfl, fun _ => ⟨m, rfl, h1, h2⟩⟩
theorem bs58_1 (id : Nat) (a : Int) : vBuildS Tryz.prog 71 1 #[(0, .int .i64 a)] id = some (.slice (some ⟨id, 0, none⟩) 1 1, .cells [.int .i64 a] (rowMeta 1)) := by kernel_rfl
theorem OL.app {s id id' : Nat} {σ : St} {v : Value} {dn : List Int} {x : Int} {m : Mta} {ops : Array Operand} (h : OL σ v dn s) (hid : σ.row id = some ([.int .i64 x], m)) (hv : σ.ver id' = 0) (h1 : id' < σ.next) (hne : s ≠ id') (hl : dn.length ≤ 100000000) {K : Value × St → Prop}
    (k : ∀ r σ', OL σ' r (dn ++ [x]) id' → But s id' σ σ' → K (r, σ')) : ex1 (aappend Tryz.prog σ id' ⟨.builtin .append, ops, #[71, 71]⟩ v (.slice (some ⟨id, 0, none⟩) 1 1)) K := by
 have hs : aSource σ 1 (.slice (some ⟨id, 0, none⟩) 1 1) = some (1, ints [x]) := by
  simp only [aSource, hid]; rfl
 rcases h with ⟨rfl, rfl⟩ | ⟨h0, hO⟩
 ·obtain ⟨r, σ', e1, e2, e3⟩ := app_nil (P := Tryz.prog) (σ := σ) (aops := ops) (t := 71) (t1 := 71) (id' := id') (y := .slice (some ⟨id, 0, none⟩) 1 1) (x := 1) (xs := ints [x]) Tryz.underlying71 Tryz.underlying71 if3 rfl hs rfl (by omega) (by omega) rfl (by omega) hv h1 (by omega) rfl
  exact ⟨_, e1, k r σ' (Or.inr ⟨by simp, e2⟩) ⟨e3.next, e3.vers, fun j _ h => e3.get j h h, fun j _ h => e3.row j h h⟩⟩
 ·obtain ⟨r, σ', e1, e2, e3⟩ := app_own (P := Tryz.prog) (aops := ops) (t := 71) (t1 := 71) (id' := id') (y := .slice (some ⟨id, 0, none⟩) 1 1) (x := 1) (xs := ints [x]) hO Tryz.underlying71 Tryz.underlying71 if3 rfl hs rfl (by omega) (by omega) rfl (by omega) hv h1 hne (by omega) rfl
  refine ⟨_, e1, k r σ' (Or.inr ⟨by simp, ?_⟩) e3⟩
  rw [ints_app, List.length_append]; exact e2
theorem EXb.comp {s s1 : Nat} {σ τ υ : St} (h : EXb s σ τ) (hs : s1 = s ∨ σ.next ≤ s1) (k : EXb s1 τ υ) : EXb s σ υ :=
 ⟨Nat.le_trans h.next k.next, fun id hi hb => (k.get id (by have := h.next; omega) (by omega)).trans (h.get id hi hb), fun id hi hb => (k.row id (by have := h.next; omega) (by omega)).trans (h.row id hi hb), fun f => k.fr (h.fr f), fun g hg => (k.ver g (by have := h.next; omega)).trans (h.ver g hg)⟩
theorem But.fr {a b : Nat} {σ σ' : St} (h : But a b σ σ') (hF : Fr σ) : Fr σ' := fun g hg => by
 have := hF g (by rw [← h.next]; exact hg)
 unfold St.ver at this ⊢; rw [h.vers]; exact this
theorem But.exb {a b : Nat} {σ τ τ' : St} (h : But a b τ τ') (e : EXb a σ τ) (hb : σ.next ≤ b) : EXb a σ τ' :=
 ⟨by rw [h.next]; exact e.next, fun id hi ha => (h.get id ha (by omega)).trans (e.get id hi ha), fun id hi ha => (h.row id ha (by omega)).trans (e.row id hi ha), fun f => But.fr h (e.fr f), fun g hg => by unfold St.ver; rw [h.vers]; exact e.ver g hg⟩
end Go.Proofs.Q
namespace Go.Proofs.Q
open Go.AI
set_option maxRecDepth 4000
def YO (σ : St) (v : Value) (l : List Sy) (s : Nat) : Prop := (v = .slice none 0 0 ∧ l = []) ∨ (l ≠ [] ∧ Own σ s 2 v l.length (flatY l))
theorem YO.mono {s : Nat} {σ τ : St} {v : Value} {l : List Sy} (h : YO σ v l s) (e : EX σ τ) : YO τ v l s := by
 rcases h with h | ⟨h0, h1⟩
 ·exact Or.inl h
 ·have hs : s < σ.next := by obtain ⟨k, m, _, h, _⟩ := h1; exact h
  exact Or.inr ⟨h0, h1.mono e.next (e.row s hs)⟩
theorem YO.put {s k : Nat} {σ : St} {v : Value} {l : List Sy} (h : YO σ v l s) (hk : s ≠ k) (ob : AObj) : YO (σ.put k ob) v l s := by
 rcases h with h | ⟨h0, h1⟩
 ·exact Or.inl h
 ·exact Or.inr ⟨h0, h1.mono (Nat.le_refl _) (row_put_ne hk)⟩
theorem YO.yl {s : Nat} {σ : St} {v : Value} {l : List Sy} (h : YO σ v l s) : YL σ v l := by
 rcases h with ⟨rfl, rfl⟩ | ⟨h0, k, m, rfl, h1, h2, h3, h4, h5, h6⟩
 ·exact ⟨none, 0, rfl, fun h => absurd rfl h⟩
 ·refine ⟨_, k, rfl, fun _ => ⟨s, 0, _, m, rfl, h1, by rw [m2_eq h5]; exact h2, ?_⟩⟩
  rw [List.drop_zero, ← h3, List.take_length]
theorem bsY1 (id : Nat) (a b : ByteArray) : vBuildS Tryz.prog 37 1 #[(0, .agg #[.string a, .string b])] id = some (.slice (some ⟨id, 0, none⟩) 1 1, .cells [.string a, .string b] (rowMeta 2)) := by kernel_rfl
theorem YO.app {s id id' : Nat} {σ : St} {v : Value} {l : List Sy} {x : Sy} {m : Mta} {ops : Array Operand} (h : YO σ v l s) (hid : σ.row id = some ([.string x.1, .string x.2], m)) (hv : σ.ver id' = 0) (h1 : id' < σ.next) (hne : s ≠ id') (hl : l.length ≤ 10000) {K : Value × St → Prop}
    (k : ∀ r σ', YO σ' r (l ++ [x]) id' → But s id' σ σ' → K (r, σ')) : ex1 (aappend Tryz.prog σ id' ⟨.builtin .append, ops, #[37, 37]⟩ v (.slice (some ⟨id, 0, none⟩) 1 1)) K := by
 have hs : aSource σ 2 (.slice (some ⟨id, 0, none⟩) 1 1) = some (1, flatY [x]) := by
  simp only [aSource, hid]; rfl
 rcases h with ⟨rfl, rfl⟩ | ⟨h0, hO⟩
 ·obtain ⟨r, σ', e1, e2, e3⟩ := app_nil (P := Tryz.prog) (σ := σ) (aops := ops) (t := 37) (t1 := 37) (id' := id') (y := .slice (some ⟨id, 0, none⟩) 1 1) (x := 1) (xs := flatY [x]) Tryz.underlying37 Tryz.underlying37 if28 rfl hs rfl (by omega) (by omega) rfl (by omega) hv h1 (by omega) rfl
  exact ⟨_, e1, k r σ' (Or.inr ⟨by simp, e2⟩) ⟨e3.next, e3.vers, fun j _ h => e3.get j h h, fun j _ h => e3.row j h h⟩⟩
 ·obtain ⟨r, σ', e1, e2, e3⟩ := app_own (P := Tryz.prog) (aops := ops) (t := 37) (t1 := 37) (id' := id') (y := .slice (some ⟨id, 0, none⟩) 1 1) (x := 1) (xs := flatY [x]) hO Tryz.underlying37 Tryz.underlying37 if28 rfl hs rfl (by omega) (by omega) rfl (by omega) hv h1 hne (by omega) rfl
  refine ⟨_, e1, k r σ' (Or.inr ⟨by simp, ?_⟩) e3⟩
  rw [flatY_append, List.length_append]; exact e2
theorem variables_spec {σ : St} {o : Option Addr} {c : Nat} {cs : List Nat} (hc : ∀ k ∈ cs, k < 256) (hl : cs.length ≤ 1000) (hrow : 0 < cs.length → ∃ id off row m, o = some ⟨id, off, none⟩ ∧ id < σ.next ∧ σ.row id = some (row, m) ∧ (row.drop off).take cs.length = u8s cs) (hF : Fr σ) :
    wpc Tryz.prog 7 #[.slice o cs.length c] σ fun r σ' => (∃ l : List Sy, l.length = cs.length ∧ YL σ' r l) ∧ EX σ σ' := by
 refine body_go Tryz.func7 rfl ?_
 have hr := Tryz.results7
 simp only [c_seq, RUNA, RUNB, zAd, zMo, zDi, zSu, zMu, zEq, zBe, zLe, zTo, fillS, wantG, vBox, Value.cells, one, putAt, TYA, hr]
 refine loop_go (fun m S τ => S.at 0 = .slice o cs.length c ∧ EX σ τ ∧ Fr τ ∧
  ∃ i : Nat, S.at 4 = .int .i64 i ∧ i ≤ cs.length ∧ m = cs.length - i ∧ ∃ (s : Nat) (l : List Sy), l.length = i ∧ YO τ (S.at 3) l s ∧ σ.next ≤ s ∧ s ≤ τ.next) cs.length ?_ ?_
 ·simp only [c_seq, RUNA, RUNB, zAd, zMo, zDi, zSu, zMu, zEq, zBe, zLe, zTo, fillS, wantG, vBox, Value.cells, one, putAt]
  refine ⟨?_, by repeat first | assumption | refine Fr.more ?_ _ | refine Fr.put ?_ _ _, 0, rfl, by omega, by omega, σ.next, [], rfl, Or.inl ⟨rfl, rfl⟩, by omega, by first | omega | (simp only [next_more, next_put] at *; omega)⟩
  repeat first | assumption | exact EXn.refl _ _ | refine EXn.more ?_ _ | refine EXn.put ?_ (by omega) _ | refine EX.trans ?_ (by assumption)
 rintro _ S τ ⟨s0, hE, hF', i, s4, hi, rfl, s, l, hll, hO, hs1, hs2⟩
 have nn := hE.next
 by_cases hlt : i < cs.length
 ·have hd : decide ((i : Int) < (cs.length : Int)) = true := by simp; omega
  have hw : IntKind.i64.wrap ((i : Int) + 1) = ((i + 1 : Nat) : Int) := by rw [wrap64 (by omega) (by omega)]; rfl
  have z2 : (0 : Int) ≤ (i : Int) := by omega
  have z3 : (i : Int) < (cs.length : Int) := by omega
  obtain ⟨id, off, row, m, rfl, g2, g3, g4⟩ := hrow (by omega)
  have g3' := (hE.row id g2).trans g3
  have hv := u8_at g4 hlt
  have hk : cs.getD i 0 < 256 := by
   rw [List.getD_eq_getElem?_getD, List.getElem?_eq_getElem hlt, Option.getD_some]; exact hc _ (List.getElem_mem hlt)
  have hcv := fun (σ : St) => (show aconvS Tryz.prog σ 5 3 (.int .u8 ((cs.getD i 0 : Nat) : Int)) = some (.int .i64 ((cs.getD i 0 : Nat) : Int)) by
   rw [n_convS Tryz.underlying5 Tryz.underlying3, wrap64 (by omega) (by omega)])
  have six0 : (6 : Int) ≠ 0 := by decide
  obtain ⟨sx, hs3, hs4⟩ := sl_uv σ (q := cs.getD i 0 % 6) (Nat.mod_lt _ (by omega))
  have hs5 := fun (σ : St) => (show aslice Tryz.prog σ 9 (.string ⟨#[117, 118, 119, 120, 121, 122]⟩) (some (.int .i64 (((cs.getD i 0 : Nat) : Int).tmod 6))) none none = some (.string sx) from hs3)
  have hs6 := fun (σ : St) => (show aslice Tryz.prog σ 9 (.string sx) none (some (.int .i64 1)) none = some (.string (ltr [117, 118, 119, 120, 121, 122] (cs.getD i 0 % 6))) from hs4)
  simp only [c_seq, RUNA, RUNB, zAd, zMo, zDi, zSu, zMu, zEq, zBe, zLe, zTo, fillS, wantG, vBox, Value.cells, one, putAt, TYA, s0, s4, hd, ia22 z2 z3, g3', hv, hcv, n_rem six0, hs5, hs6]
  refine wpc_mono (User_spec _ _) ?_
  rintro r σ2 ⟨rfl, hE2⟩
  have n2 := hE2.next
  simp only [next_more, next_put] at n2
  obtain ⟨ov, hov⟩ : ∃ ov, S.at 3 = ov := ⟨_, rfl⟩
  rw [hov] at hO
  have e2 : EX τ σ2 := by refine EX.trans ?_ hE2; repeat first | assumption | exact EXn.refl _ _ | refine EXn.more ?_ _ | refine EXn.put ?_ (by omega) _ | refine EX.trans ?_ (by assumption)
  simp only [c_seq, RUNA, RUNB, zAd, zMo, zDi, zSu, zMu, zEq, zBe, zLe, zTo, fillS, wantG, vBox, Value.cells, one, putAt, TYA, s0, s4, hov, bsY1]
  refine YO.app (s := s) (id := τ.next + 14) (id' := τ.next + 15) (l := l) (x := (usr, ltr [117, 118, 119, 120, 121, 122] (cs.getD i 0 % 6))) (m := rowMeta 2) ?_ (by simp only [c_seq, RUNA, RUNB, zAd, zMo, zDi, zSu, zMu, zEq, zBe, zLe, zTo, fillS, wantG, vBox, Value.cells, one, putAt]) ?_ (by first | omega | (simp only [next_more, next_put] at *; omega)) (by omega) (by omega) ?_
  ·exact (hO.mono e2).put (by omega) _
  ·rw [ver_put, hE2.ver _ (by first | omega | (simp only [next_more, next_put] at *; omega))]; exact hF' _ (by omega)
  intro r σ3 hO3 hB
  have bn := hB.next
  simp only [next_put, next_more] at bn
  have ex3 : EX σ σ3 := EXn.trans (by repeat first | assumption | exact EXn.refl _ _ | refine EXn.more ?_ _ | refine EXn.put ?_ (by omega) _ | refine EX.trans ?_ (by assumption)) (hB.exn (n := σ.next) (by omega) (by omega))
  have hF3 := ex3.fr hF
  simp only [c_seq, RUNA, RUNB, zAd, zMo, zDi, zSu, zMu, zEq, zBe, zLe, zTo, fillS, wantG, vBox, Value.cells, one, putAt, TYA, s0, s4, hw]
  refine ⟨cs.length - (i + 1), by omega, ?_, by repeat first | assumption | refine Fr.more ?_ _ | refine Fr.put ?_ _ _, i + 1, rfl, by omega, rfl, τ.next + 15, l ++ [(usr, ltr [117, 118, 119, 120, 121, 122] (cs.getD i 0 % 6))], by simp [hll], ?_, by omega, by first | omega | (simp only [next_more, next_put] at *; omega)⟩
  ·repeat first | assumption | exact EXn.refl _ _ | refine EXn.more ?_ _ | refine EXn.put ?_ (by omega) _ | refine EX.trans ?_ (by assumption)
  ·exact hO3.mono (by repeat first | assumption | exact EXn.refl _ _ | refine EXn.more ?_ _ | refine EXn.put ?_ (by omega) _ | refine EX.trans ?_ (by assumption))
 ·have hd : decide ((i : Int) < (cs.length : Int)) = false := by simp; omega
  simp only [c_seq, RUNA, RUNB, zAd, zMo, zDi, zSu, zMu, zEq, zBe, zLe, zTo, fillS, wantG, vBox, Value.cells, one, putAt, TYA, s0, s4, hd, hr]
  refine ⟨⟨l, by omega, (hO.mono ?_).yl⟩, ?_⟩
  ·repeat first | assumption | exact EXn.refl _ _ | refine EXn.more ?_ _ | refine EXn.put ?_ (by omega) _ | refine EX.trans ?_ (by assumption)
  ·repeat first | assumption | exact EXn.refl _ _ | refine EXn.more ?_ _ | refine EXn.put ?_ (by omega) _ | refine EX.trans ?_ (by assumption)
end Go.Proofs.Q
namespace Go.Proofs.Q
open Go.AI
structure EXF (X : Nat → Prop) (σ σ' : St) : Prop where
 next : σ.next ≤ σ'.next
 get : ∀ id, id < σ.next → ¬ X id → σ'.get id = σ.get id
 row : ∀ id, id < σ.next → ¬ X id → σ'.row id = σ.row id
 fr : Fr σ → Fr σ'
 ver : ∀ g, g < σ.next → σ'.ver g = σ.ver g
theorem EXF.refl (X : Nat → Prop) (σ : St) : EXF X σ σ := ⟨Nat.le_refl _, fun _ _ _ => rfl, fun _ _ _ => rfl, id, fun _ _ => rfl⟩
theorem EXF.of {X : Nat → Prop} {σ σ' : St} (h : EX σ σ') : EXF X σ σ' := ⟨h.next, fun id hi _ => h.get id hi, fun id hi _ => h.row id hi, h.fr, h.ver⟩
theorem EXF.comp {X Y : Nat → Prop} {σ τ υ : St} (h : EXF X σ τ) (hs : ∀ id, id < σ.next → Y id → X id) (k : EXF Y τ υ) : EXF X σ υ :=
 ⟨Nat.le_trans h.next k.next, fun id hi hb => (k.get id (by have := h.next; omega) (fun y => hb (hs id hi y))).trans (h.get id hi hb), fun id hi hb => (k.row id (by have := h.next; omega) (fun y => hb (hs id hi y))).trans (h.row id hi hb), fun f => k.fr (h.fr f), fun g hg => (k.ver g (by have := h.next; omega)).trans (h.ver g hg)⟩
theorem EXF.more {X : Nat → Prop} {σ τ : St} (h : EXF X σ τ) (k : Nat) : EXF X σ (τ.more k) := h.comp (fun _ _ y => y) (.of ((EX.refl τ).more k))
theorem EXF.thn {X : Nat → Prop} {σ τ υ : St} (h : EXF X σ τ) (k : EX τ υ) : EXF X σ υ := h.comp (Y := fun _ => False) (fun _ _ y => y.elim) (.of k)
theorem EXF.put {X : Nat → Prop} {σ τ : St} (h : EXF X σ τ) {k : Nat} (hk : σ.next ≤ k ∨ X k) (ob : AObj) : EXF X σ (τ.put k ob) := by
 have ne : ∀ id, id < σ.next → ¬ X id → id ≠ k := by
  intro id hi hx e; subst e
  rcases hk with hk | hk
  ·omega
  ·exact hx hk
 refine ⟨h.next, fun id hi hb => ?_, fun id hi hb => ?_, fun f => (h.fr f), h.ver⟩
 ·rw [St.get_put, if_neg (ne id hi hb)]; exact h.get id hi hb
 ·rw [row_put_ne (ne id hi hb)]; exact h.row id hi hb
def blw (l : List Vtx) (i v : Nat) (h : Bool) : Int := if lvl l i = v then (if h = true then (vx l i).2.2 else (vx l i).2.1) else (i : Int)
theorem blw_rep {l : List Vtx} (g : Gd l) {A : Dt} {i v : Nat} (hA : Rep l A i) (hi : i < l.length) (hv : v ≤ lvl l i) (hv10 : v < 10) (h : Bool) :
    ∃ A' : Dt, Rep l A' (blw l i v h) ∧ A'.ok (v + 1) ∧ ∀ f, A'.ev f = A.ev (upd f v h) := by
 obtain ⟨B, hB, ho⟩ := Rep.ex g i hi
 have := Rep.fn hB hA
 subst this
 unfold blw
 by_cases e : lvl l i = v
 ·rw [if_pos e]
  have h2 : 2 ≤ i := by
   by_cases q : i < 2
   ·simp only [lvl, q, if_true] at e; omega
   ·omega
  obtain ⟨w, lo, hi', rfl, _, h4, h5, h6⟩ := hA.node_at h2
  have hw : w = v := by
   have : lvl l i = (vx l i).1.toNat := by simp only [lvl]; rw [if_neg (by omega)]
   omega
  subst hw
  cases h with
  | true => exact ⟨hi', h6, ho.2.2.2.2, fun f => by simp only [Dt.ev, upd_self, if_true]; rw [Dt.ev_upd ho.2.2.2.2 (by omega)]⟩
  | false => exact ⟨lo, h5, ho.2.2.2.1, fun f => by simp only [Dt.ev, upd_self, Bool.false_eq_true, if_false]; rw [Dt.ev_upd ho.2.2.2.1 (by omega)]⟩
 ·rw [if_neg e]
  exact ⟨B, hA, Dt.ok_mono ho (by omega), fun f => (Dt.ev_upd ho (by omega)).symm⟩
theorem lvl_le {l : List Vtx} (g : Gd l) {i : Nat} (hi : i < l.length) : lvl l i ≤ 10 := by
 unfold lvl
 split
 ·omega
 ·have := g.var i (by omega) hi; omega
theorem level_spec {σ : St} {a : Value} {l : List Vtx} {root : Int} {i : Nat} (ha : DV σ a (l, root)) (g : Gd l) (hi : i < l.length) : wpc Tryz.prog 84 #[a, .int .i64 i] σ fun r σ' => r = .int .i64 (lvl l i : Nat) ∧ EX σ σ' := by
 obtain ⟨oa, ca, rfl, hA⟩ := ha.open
 simp only at hA
 refine body_go Tryz.func84 rfl ?_
 have hr := Tryz.results84
 by_cases h2 : i < 2
 ·have hd : decide ((i : Int) < 2) = true := by simp; omega
  simp only [c_seq, RUNA, RUNB, zAd, zMo, zDi, zSu, zMu, zEq, zBe, zLe, zTo, fillS, wantG, vBox, Value.cells, one, putAt, TYA, hr, hd]
  refine ⟨?_, ?_⟩
  ·simp only [lvl, h2, if_true]; rfl
  ·repeat first | assumption | exact EXn.refl _ _ | refine EXn.more ?_ _ | refine EXn.put ?_ (by omega) _ | refine EX.trans ?_ (by assumption)
 ·have hd : decide ((i : Int) < 2) = false := by simp; omega
  obtain ⟨aid, aoff, arow, am, rfl, a1, a2, a3⟩ := hA (by omega)
  have z0 : (0 : Int) ≤ (i : Int) := by omega
  have z1 : (i : Int) < (l.length : Int) := by omega
  have f0 := flat_at0 a3 hi
  have na : ¬ aid = σ.next := by omega
  have hv := g.var i (by omega) hi
  simp only [c_seq, RUNA, RUNB, zAd, zMo, zDi, zSu, zMu, zEq, zBe, zLe, zTo, fillS, wantG, vBox, Value.cells, one, putAt, TYA, hr, hd, ia39 z0 z1, a2, f0, na]
  refine ⟨?_, ?_⟩
  ·simp only [lvl, h2, if_false]; rw [Int.toNat_of_nonneg hv.1]
  ·repeat first | assumption | exact EXn.refl _ _ | refine EXn.more ?_ _ | refine EXn.put ?_ (by omega) _ | refine EX.trans ?_ (by assumption)
theorem below_spec {σ : St} {a : Value} {l : List Vtx} {root : Int} {i v : Nat} {h : Bool} (ha : DV σ a (l, root)) (g : Gd l) (hi : i < l.length) : wpc Tryz.prog 85 #[a, .int .i64 i, .int .i64 v, .bool h] σ fun r σ' => r = .int .i64 (blw l i v h) ∧ EX σ σ' := by
 obtain ⟨oa, ca, rfl, hA⟩ := ha.open
 simp only at hA
 refine body_go Tryz.func85 rfl ?_
 have hr := Tryz.results85
 simp only [c_seq, RUNA, RUNB, zAd, zMo, zDi, zSu, zMu, zEq, zBe, zLe, zTo, fillS, wantG, vBox, Value.cells, one, putAt, TYA, hr]
 refine wpc_mono (level_spec (ha.mono ?_) g hi) ?_
 ·repeat first | assumption | exact EXn.refl _ _ | refine EXn.more ?_ _ | refine EXn.put ?_ (by omega) _ | refine EX.trans ?_ (by assumption)
 rintro r σ1 ⟨rfl, hE1⟩
 have n1 := hE1.next
 simp only [next_more, next_put] at n1
 have e1 : EX σ σ1 := by repeat first | assumption | exact EXn.refl _ _ | refine EXn.more ?_ _ | refine EXn.put ?_ (by omega) _ | refine EX.trans ?_ (by assumption)
 have b1 : σ1.row σ.next = some ([.slice oa l.length ca, .int .i64 root], boxMeta) := by rw [hE1.row _ (by first | omega | (simp only [next_more, next_put] at *; omega))]; simp only [c_seq, RUNA, RUNB, zAd, zMo, zDi, zSu, zMu, zEq, zBe, zLe, zTo, fillS, wantG, vBox, Value.cells, one, putAt]
 by_cases hv : lvl l i = v
 ·have g1 : ((lvl l i : Int) != (v : Int)) = false := by simp [hv]
  have h2 : ¬ i < 2 ∨ v = 10 := by
   by_cases q : i < 2
   ·right; simp only [lvl, q, if_true] at hv; exact hv.symm
   ·exact Or.inl q
  obtain ⟨aid, aoff, arow, am, rfl, a1, a2, a3⟩ := hA (by omega)
  have z0 : (0 : Int) ≤ (i : Int) := by omega
  have z1 : (i : Int) < (l.length : Int) := by omega
  have f1 := flat_at1 a3 hi
  have f2 := flat_at2 a3 hi
  have ra := (e1.row aid a1).trans a2
  cases h with
  | true =>
   simp only [c_seq, RUNA, RUNB, zAd, zMo, zDi, zSu, zMu, zEq, zBe, zLe, zTo, fillS, wantG, vBox, Value.cells, one, putAt, TYA, hr, g1, ia39 z0 z1, b1, ra, f1, f2]
   refine ⟨by simp only [blw, hv, if_true], ?_⟩
   repeat first | assumption | exact EXn.refl _ _ | refine EXn.more ?_ _ | refine EXn.put ?_ (by omega) _ | refine EX.trans ?_ (by assumption)
  | false =>
   simp only [c_seq, RUNA, RUNB, zAd, zMo, zDi, zSu, zMu, zEq, zBe, zLe, zTo, fillS, wantG, vBox, Value.cells, one, putAt, TYA, hr, g1, ia39 z0 z1, b1, ra, f1, f2]
   refine ⟨by simp only [blw, hv, if_true, Bool.false_eq_true, if_false], ?_⟩
   repeat first | assumption | exact EXn.refl _ _ | refine EXn.more ?_ _ | refine EXn.put ?_ (by omega) _ | refine EX.trans ?_ (by assumption)
 ·have g1 : ((lvl l i : Int) != (v : Int)) = true := by simp; omega
  simp only [c_seq, RUNA, RUNB, zAd, zMo, zDi, zSu, zMu, zEq, zBe, zLe, zTo, fillS, wantG, vBox, Value.cells, one, putAt, TYA, hr, g1]
  refine ⟨by simp only [blw, hv, if_false], ?_⟩
  repeat first | assumption | exact EXn.refl _ _ | refine EXn.more ?_ _ | refine EXn.put ?_ (by omega) _ | refine EX.trans ?_ (by assumption)
end Go.Proofs.Q
namespace Go.Proofs.Q
open Go.AI
set_option maxRecDepth 20000
theorem fndL_first (x : Vtx) : ∀ (l : List Vtx) (j : Nat), j < fndL x l → vx l j ≠ x := by
 intro l
 induction l with
 | nil => intro j h; simp [fndL] at h
 | cons y l ih =>
  intro j h
  simp only [fndL] at h
  split at h
  ·omega
  ·rename_i e
   cases j with
   | zero => simpa [vx] using e
   | succ j => have := ih j (by omega); simpa [vx] using this
theorem fnd_first {x : Vtx} {l : List Vtx} (_h : fnd x l < l.length) : ∀ j, 2 ≤ j → j < fnd x l → vx l j ≠ x := by
 intro j h2 hj
 unfold fnd at hj
 have := fndL_first x (l.drop 2) (j - 2) (by omega)
 rwa [vx_drop, show j - 2 + 2 = j by omega] at this
def idxG (l : List Vtx) : Vtx → Option Value := fun v => if fnd v l < l.length then some (.int .i64 (fnd v l : Nat)) else none
theorem idxG_new : idxG c01 = fun _ => none := by
 funext v
 have h : fnd v c01 = 2 := rfl
 have h2 : c01.length = 2 := rfl
 unfold idxG; rw [if_neg (by omega)]
theorem idxG_s {l : List Vtx} (h2 : 2 ≤ l.length) {x : Vtx} (hx : ¬ fnd x l < l.length) : mset (idxG l) x (.int .i64 (l.length : Nat)) = idxG (l ++ [x]) := by
 funext v
 unfold mset idxG
 have hl : (l ++ [x]).length = l.length + 1 := by simp
 by_cases e : v = x
 ·subst e
  have : fnd v (l ++ [v]) = l.length := fnd_hit h2 (fun q q1 q2 => by rw [vx_app q2]; exact fnd_none hx q q1 q2) vx_last (by omega)
  rw [if_pos rfl, this, if_pos (by omega)]
 ·rw [if_neg e]
  by_cases hv : fnd v l < l.length
  ·obtain ⟨w1, w2⟩ := fnd_spec hv
   have : fnd v (l ++ [x]) = fnd v l := by
    refine fnd_hit w1 (fun q q1 q2 => ?_) (by rw [vx_app hv]; exact w2) (by omega)
    rw [vx_app (by omega)]
    intro e'
    have := fnd_first hv q q1 q2
    exact this e'
   rw [if_pos hv, this, if_pos (by omega)]
  ·have : fnd v (l ++ [x]) = (l ++ [x]).length := by
    refine fnd_miss (by omega) (fun q q1 q2 => ?_)
    by_cases hq : q < l.length
    ·rw [vx_app hq]; exact fnd_none hv q q1 hq
    ·obtain rfl : q = l.length := by omega
     rw [vx_last]; exact fun e' => e e'.symm
   rw [if_neg hv, this, if_neg (by omega)]
structure TBL (b mid s : Nat) (σ : St) (l : List Vtx) : Prop where
 rb : ∃ sv, σ.row b = some ([sv, .map (some mid)], boxMeta) ∧ Own σ s 3 sv l.length (flat l)
 mp : MP enc3 σ mid (idxG l)
 gd : Gd l
 lt : b < σ.next ∧ mid < σ.next ∧ s < σ.next
 ne : b ≠ mid ∧ b ≠ s ∧ mid ≠ s
theorem TBL.mono {b mid s : Nat} {σ τ : St} {l : List Vtx} (h : TBL b mid s σ l) (e : EX σ τ) : TBL b mid s τ l := by
 obtain ⟨⟨sv, h1, h2⟩, h3, h4, ⟨h5, h6, h7⟩, h8⟩ := h
 have := e.next
 exact ⟨⟨sv, (e.row b h5).trans h1, h2.mono e.next (e.row s h7)⟩, h3.of (e.get mid h6), h4, ⟨by omega, by omega, by omega⟩, h8⟩
theorem bd85 (a : Option Addr) (n c m : Nat) : abuild Tryz.prog 122 #[(0, .slice a n c), (1, .map (some m))] = some (.agg #[.slice a n c, .map (some m)]) := by kernel_rfl
theorem newTable_spec (σ : St) : wpc Tryz.prog 82 #[] σ fun r σ' => ∃ b mid s, r = .pointer (some ⟨b, 0, none⟩) ∧ TBL b mid s σ' c01 ∧ σ.next ≤ b ∧ σ.next ≤ mid ∧ σ.next ≤ s ∧ EX σ σ' := by
 refine body_go Tryz.func82 rfl ?_
 have hr := Tryz.results82
 simp only [c_seq, RUNA, RUNB, zAd, zMo, zDi, zSu, zMu, zEq, zBe, zLe, zTo, fillS, wantG, vBox, Value.cells, one, putAt, TYA, k_tmp, k_val, List.append_toArray, List.nil_append, List.cons_append, mm_none, row_putm, hr]
 refine wpc_mono (constants_spec _) ?_
 rintro r σ2 ⟨id, rfl, h1, h2, h3, hE⟩
 simp only [next_more, next_put] at h1
 have hn := hE.next
 simp only [next_more, next_put] at hn
 simp only [c_seq, RUNA, RUNB, zAd, zMo, zDi, zSu, zMu, zEq, zBe, zLe, zTo, fillS, wantG, vBox, Value.cells, one, putAt, TYA, k_tmp, k_val, List.append_toArray, List.nil_append, List.cons_append, mm_none, row_putm, bd85, hr]
 have x1 : ¬ σ.next + 2 = σ.next + 4 := by omega
 have x2 : ¬ id = σ.next + 4 := by omega
 have x3 : ¬ id = σ.next + 2 := by omega
 refine ⟨σ.next + 4, rfl, σ.next + 2, id, ⟨⟨.slice (some ⟨id, 0, none⟩) 2 2, ?_, ⟨2, rowMeta 3, rfl, ?_, ?_, rfl, rfl, rfl, Or.inl rfl⟩⟩, ?_, gd01, ⟨by first | omega | (simp only [next_more, next_put] at *; omega), by first | omega | (simp only [next_more, next_put] at *; omega), by first | omega | (simp only [next_more, next_put] at *; omega)⟩, ⟨by omega, by omega, by omega⟩⟩, by omega, by omega, by omega, ?_⟩
 ·simp only [c_seq, RUNA, RUNB, zAd, zMo, zDi, zSu, zMu, zEq, zBe, zLe, zTo, fillS, wantG, vBox, Value.cells, one, putAt]
 ·first | omega | (simp only [next_more, next_put] at *; omega)
 ·simp only [c_seq, RUNA, RUNB, zAd, zMo, zDi, zSu, zMu, zEq, zBe, zLe, zTo, fillS, wantG, vBox, Value.cells, one, putAt, k_tmp, k_val, List.append_toArray, List.nil_append, List.cons_append, mm_none, row_putm, x2, x3, h3]
 ·rw [idxG_new]
  exact MP.new (by simp only [c_seq, RUNA, RUNB, zAd, zMo, zDi, zSu, zMu, zEq, zBe, zLe, zTo, fillS, wantG, vBox, Value.cells, one, putAt, x1])
 ·repeat first | assumption | exact EXn.refl _ _ | refine EXn.more ?_ _ | refine EXn.put ?_ (by omega) _ | refine EX.trans ?_ (by assumption)
def tX (b mid s : Nat) : Nat → Prop := fun id => id = b ∨ id = mid ∨ id = s
theorem lkI {σ : St} {id : Nat} {l : List Vtx} (h : MP enc3 σ id (idxG l)) (v : Vtx) : alookup Tryz.prog σ 120 (.map (some id)) (.agg #[.int .i64 v.1, .int .i64 v.2.1, .int .i64 v.2.2]) true =
    some (if fnd v l < l.length then .tuple #[.int .i64 (fnd v l : Nat), .bool true] else .tuple #[.int .i64 0, .bool false]) := by
 by_cases hv : fnd v l < l.length
 ·have := lookup_some keyV Tryz.underlying120 h (k := v) (v := .int .i64 (fnd v l : Nat)) (by simp [idxG, hv]) true
  rw [if_pos hv]; exact this
 ·have := lookup_none keyV Tryz.underlying120 h (k := v) (by simp [idxG, hv]) (z := .int .i64 0) (by kernel_rfl) rfl true
  rw [if_neg hv]; exact this
def VOut (b mid s : Nat) (l : List Vtx) (v : Nat) (t u : Dt) (σ : St) (r : Value) (σ' : St) : Prop := ∃ (l' : List Vtx) (T : Dt) (n : Int) (s' : Nat), r = .int .i64 n ∧ TBL b mid s' σ' l' ∧ (∃ q, l' = l ++ q) ∧ l'.length ≤ l.length + 1 ∧ Rep l' T n ∧ T.ok v ∧ (∀ f, T.ev f = if f v = true then u.ev f else t.ev f) ∧
      (s' = s ∨ (σ.next ≤ s' ∧ s' < σ'.next)) ∧ EXF (tX b mid s) σ σ' ∧ Fr σ'
set_option maxHeartbeats 2000000 in
theorem tvertex_spec {b mid s : Nat} {σ : St} {l : List Vtx} {v : Nat} {lo hi : Int} {t u : Dt} (hT : TBL b mid s σ l) (hF : Fr σ) (hlen : l.length ≤ 1000000) (hv : v < 10) (ht : Rep l t lo) (hu : Rep l u hi) (hto : t.ok (v + 1)) (huo : u.ok (v + 1)) :
    wpc Tryz.prog 86 #[.pointer (some ⟨b, 0, none⟩), .int .i64 v, .int .i64 lo, .int .i64 hi] σ (VOut b mid s l v t u σ) := by
 refine body_go Tryz.func86 rfl ?_
 have hr := Tryz.results86
 by_cases he : lo = hi
 ·have g1 : (lo == hi) = true := by simp [he]
  simp only [c_seq, RUNA, RUNB, zAd, zMo, zDi, zSu, zMu, zEq, zBe, zLe, zTo, fillS, wantG, vBox, Value.cells, one, putAt, TYA, k_tmp, k_val, List.append_toArray, List.nil_append, List.cons_append, mm_none, row_putm, hr, g1]
  have e : EX σ (((σ.more 1).more 3).more 2) := by repeat first | assumption | exact EXn.refl _ _ | refine EXn.more ?_ _ | refine EXn.put ?_ (by omega) _ | refine EX.trans ?_ (by assumption)
  have htu : t = u := ht.fn (by rw [he]; exact hu)
  exact ⟨l, t, lo, s, rfl, hT.mono e, ⟨[], by simp⟩, by omega, ht, Dt.ok_mono hto (by omega), fun f => by rw [htu]; simp, Or.inl rfl, .of e, e.fr hF⟩
 ·have g1 : (lo == hi) = false := by simp [he]
  have hne : t ≠ u := fun e => he (by subst e; exact Rep.inj hT.gd ht hu)
  have hlt := hT.lt
  simp only [c_seq, RUNA, RUNB, zAd, zMo, zDi, zSu, zMu, zEq, zBe, zLe, zTo, fillS, wantG, vBox, Value.cells, one, putAt, TYA, k_tmp, k_val, List.append_toArray, List.nil_append, List.cons_append, mm_none, row_putm, hr, g1, bd40]
  refine gen_go (fun S τ => S.at 0 = .pointer (some ⟨b, 0, none⟩) ∧ S.at 9 = .pointer (some ⟨σ.next + 8, 0, none⟩) ∧ EX σ τ ∧ σ.next + 8 < τ.next ∧ τ.row (σ.next + 8) = some ([.int .i64 v, .int .i64 lo, .int .i64 hi], boxMeta)) ?_ ?_
  ·simp only [c_seq, RUNA, RUNB, zAd, zMo, zDi, zSu, zMu, zEq, zBe, zLe, zTo, fillS, wantG, vBox, Value.cells, one, putAt]
   refine ⟨?_, by omega⟩
   repeat first | assumption | exact EXn.refl _ _ | refine EXn.more ?_ _ | refine EXn.put ?_ (by omega) _ | refine EX.trans ?_ (by assumption)
  rintro S τ ⟨s0, s9, hE, hx, rx⟩
  have hTt := hT.mono hE
  have hFt := hE.fr hF
  obtain ⟨⟨sv, rb, hO⟩, mp, gd, ⟨l1, l2, l3⟩, ⟨n1, n2, n3⟩⟩ := id hTt
  have hO' := hO
  obtain ⟨kc, mm, rfl, o1, o2, o3, o4, o5, o6⟩ := hO'
  have hlk := lkI mp ((v : Int), lo, hi)
  refine d_go (ms := [0, 1, 3, 7, 0, 31, 63, 127, 127, 255, 1023]) (order := [0, 1, 2, 3, 4, 5, 6, 7, 8, 9, 10]) (by kernel_rfl) (by kernel_rfl) (by kernel_rfl) (by kernel_rfl) ?_
  by_cases hf : fnd ((v : Int), lo, hi) l < l.length
  ·rw [if_pos hf] at hlk
   have hp := put_ok gd hv ht hu hto huo hne
   have hlk' : ∀ k, alookup Tryz.prog (τ.more k) 120 (.map (some mid)) (.agg #[.int .i64 (v : Int), .int .i64 lo, .int .i64 hi]) true = some (.tuple #[.int .i64 (fnd ((v : Int), lo, hi) l : Nat), .bool true]) := fun k => (lk_get (τ := τ) get_more).trans hlk
   simp only [YRUNA, YRUNB, zSh, bit, c_seq, RUNA, RUNB, zAd, zMo, zDi, zSu, zMu, zEq, zBe, zLe, zTo, fillS, wantG, vBox, Value.cells, one, putAt, TYA, k_tmp, k_val, List.append_toArray, List.nil_append, List.cons_append, mm_none, row_putm, s0, s9, rb, rx, hlk', hr]
   rw [put, if_pos hf] at hp
   have e2 : EX σ (((τ.more 11).more 1).more 2) := by repeat first | assumption | exact EXn.refl _ _ | refine EXn.more ?_ _ | refine EXn.put ?_ (by omega) _ | refine EX.trans ?_ (by assumption)
   refine ⟨l, .node v t u, _, s, rfl, hT.mono e2, ⟨[], by simp⟩, by omega, hp.2.1, ⟨Nat.le_refl _, hv, hne, hto, huo⟩, fun f => rfl, Or.inl rfl, .of e2, e2.fr hF⟩
  ·rw [if_neg hf] at hlk
   have hlk' : ∀ k, alookup Tryz.prog (τ.more k) 120 (.map (some mid)) (.agg #[.int .i64 (v : Int), .int .i64 lo, .int .i64 hi]) true = some (.tuple #[.int .i64 0, .bool false]) := fun k => (lk_get (τ := τ) get_more).trans hlk
   simp only [YRUNA, YRUNB, zSh, bit, c_seq, RUNA, RUNB, zAd, zMo, zDi, zSu, zMu, zEq, zBe, zLe, zTo, fillS, wantG, vBox, Value.cells, one, putAt, TYA, k_tmp, k_val, List.append_toArray, List.nil_append, List.cons_append, mm_none, row_putm, s0, s9, rb, rx, hlk']
   refine gen_go (fun S τ' => S.at 0 = .pointer (some ⟨b, 0, none⟩) ∧ S.at 9 = .pointer (some ⟨σ.next + 8, 0, none⟩) ∧ EX τ τ') ?_ ?_
   ·simp only [c_seq, RUNA, RUNB, zAd, zMo, zDi, zSu, zMu, zEq, zBe, zLe, zTo, fillS, wantG, vBox, Value.cells, one, putAt, s0, s9]
    repeat first | assumption | exact EXn.refl _ _ | refine EXn.more ?_ _ | refine EXn.put ?_ (by omega) _ | refine EX.trans ?_ (by assumption)
   clear s0 s9
   rintro S τ' ⟨s0, s9, hE'⟩
   have en := hE'.next
   have rb' := (hE'.row b l1).trans rb
   have rx' := (hE'.row (σ.next + 8) hx).trans rx
   have hF' := hE'.fr hFt
   have bsn := bs23_1 (τ'.next + 6) (v : Int) lo hi
   have y1 : ¬ σ.next + 2 = τ'.next := by omega
   have y2 : ¬ b = τ'.next + 6 := by omega
   have y3 : ¬ σ.next + 8 = τ'.next + 6 := by omega
   refine d_go (ms := [0, 0, 2, 6, 14, 0, 32, 126, 255, 511, 1023]) (order := [0, 1, 2, 3, 4, 5, 6, 7, 8, 9, 10]) (by kernel_rfl) (by kernel_rfl) (by kernel_rfl) (by kernel_rfl) ?_
   simp only [YRUNA, YRUNB, zSh, bit, c_seq, RUNA, RUNB, zAd, zMo, zDi, zSu, zMu, zEq, zBe, zLe, zTo, fillS, wantG, vBox, Value.cells, one, putAt, TYA, k_tmp, k_val, List.append_toArray, List.nil_append, List.cons_append, mm_none, row_putm, s0, s9, rb', rx', bsn, y1, y2, y3]
   refine app_ex (app_own (id := s) (n := l.length) (cs := flat l) (z := 3) (x := 1) (xs := flat [((v : Int), lo, hi)]) (Own.mono (hO.mono hE'.next (hE'.row s l3)) ?_ ?_) Tryz.underlying39 Tryz.underlying39 if54 rfl ?_ rfl (by omega) (by omega) rfl (by omega) ?_ ?_ (by omega) (by omega) rfl) ?_
   ·first | omega | (simp only [next_more, next_put] at *; omega)
   ·rw [row_put_ne (by omega), row_more]
   ·simp only [aSource, row_put, if_true, good_row]; rfl
   ·rw [ver_put]; exact hF' _ (by omega)
   ·first | omega | (simp only [next_more, next_put] at *; omega)
   rintro r σ3 ⟨hO3, hB⟩
   have bn := hB.next
   simp only [next_put, next_more] at bn
   have rb3 : σ3.row b = some ([.slice (some ⟨s, 0, none⟩) l.length kc, .map (some mid)], boxMeta) := by rw [hB.row b n2 (by omega), row_put_ne (by omega)]; exact rb'
   have rx3 : σ3.row (σ.next + 8) = some ([.int .i64 v, .int .i64 lo, .int .i64 hi], boxMeta) := by rw [hB.row _ (by omega) (by omega), row_put_ne (by omega)]; exact rx'
   have ro3 : σ3.get (τ'.next + 6) = some (.cells (flat [((v : Int), lo, hi)]) (rowMeta 3)) := by rw [hB.get _ (by omega) (by omega), St.get_put, if_pos rfl]
   have hO3' := hO3
   obtain ⟨k3, m3', rfl, w1, w2, w3, w4, w5, w6⟩ := hO3'
   simp only [YRUNA, YRUNB, zSh, bit, c_seq, RUNA, RUNB, zAd, zMo, zDi, zSu, zMu, zEq, zBe, zLe, zTo, fillS, wantG, vBox, Value.cells, one, putAt, TYA, k_tmp, k_val, List.append_toArray, List.nil_append, List.cons_append, mm_none, row_putm, s0, s9, rb3, rx3, ro3]
   have hl1 : (l ++ [((v : Int), lo, hi)]).length = l.length + 1 := by simp
   have hF3 : Fr σ3 := But.fr hB (by repeat first | assumption | refine Fr.more ?_ _ | refine Fr.put ?_ _ _)
   have hX3 : EXF (tX b mid s) σ σ3 := by
    have ex : EX σ τ' := EX.trans hE hE'
    refine ⟨by omega, fun id hi hx => ?_, fun id hi hx => ?_, fun _ => hF3, fun gg hg => ?_⟩
    ·rw [hB.get id (fun e => hx (Or.inr (Or.inr e))) (by omega), St.get_put, if_neg (by omega), get_more]; exact ex.get id hi
    ·rw [hB.row id (fun e => hx (Or.inr (Or.inr e))) (by omega), row_put_ne (by omega), row_more]; exact ex.row id hi
    ·unfold St.ver; rw [hB.vers]; exact ex.ver gg hg
   have hM3 : MP enc3 σ3 mid (idxG l) := mp.of (by rw [hB.get mid n3 (by omega), St.get_put, if_neg (by omega), get_more]; exact hE'.get mid l2)
   refine gen_go (fun S τ5 => S.at 0 = .pointer (some ⟨b, 0, none⟩) ∧ S.at 9 = .pointer (some ⟨σ.next + 8, 0, none⟩) ∧ τ5.row b = some ([.slice (some ⟨τ'.next + 7, 0, none⟩) (l.length + 1) k3, .map (some mid)], boxMeta) ∧
    τ5.row (σ.next + 8) = some ([.int .i64 v, .int .i64 lo, .int .i64 hi], boxMeta) ∧ Own τ5 (τ'.next + 7) 3 (.slice (some ⟨τ'.next + 7, 0, none⟩) (l.length + 1) k3) (l.length + 1) (flat (l ++ [((v : Int), lo, hi)])) ∧ MP enc3 τ5 mid (idxG l) ∧ EXF (tX b mid s) σ τ5 ∧ Fr τ5 ∧ τ'.next + 7 < τ5.next) ?_ ?_
   ·have z1 : ¬ σ.next + 8 = b := by omega
    have z2 : ¬ τ'.next + 7 = b := by omega
    simp only [c_seq, RUNA, RUNB, zAd, zMo, zDi, zSu, zMu, zEq, zBe, zLe, zTo, fillS, wantG, vBox, Value.cells, one, putAt, s0, s9, z1, rx3]
    refine ⟨?_, ?_, hX3.put (Or.inr (Or.inl rfl)) _, by repeat first | assumption | refine Fr.more ?_ _ | refine Fr.put ?_ _ _, by omega⟩
    ·rw [flat_append]
     exact hO3.mono (by first | omega | (simp only [next_more, next_put] at *; omega)) (row_put_ne z2)
    ·exact hM3.of (by rw [St.get_put, if_neg (fun e => n1 e.symm)])
   clear s0 s9
   rintro S τ5 ⟨s0, s9, rb5, rx5, hO5, hM5, hX5, hF5, h5n⟩
   have hw : IntKind.i64.wrap ((l.length : Int) + 1 - 1) = ((l.length : Nat) : Int) := by rw [wrap64 (by omega) (by omega)]; omega
   have hc1 : ((l.length + 1 : Nat) : Int) = (l.length : Int) + 1 := by omega
   refine d_go (ms := [0, 1, 3, 7, 0, 0, 32, 96, 224, 480, 992, 2047]) (order := [0, 1, 2, 3, 4, 5, 6, 7, 8, 9, 10, 11]) (by kernel_rfl) (by kernel_rfl) (by kernel_rfl) (by kernel_rfl) ?_
   simp only [YRUNA, YRUNB, zSh, bit, c_seq, RUNA, RUNB, zAd, zMo, zDi, zSu, zMu, zEq, zBe, zLe, zTo, fillS, wantG, vBox, Value.cells, one, putAt, TYA, k_tmp, k_val, List.append_toArray, List.nil_append, List.cons_append, mm_none, row_putm, s0, s9, rb5, rx5, hc1, hw]
   refine update_ex keyV Tryz.underlying120 hM5 ?_ (k := ((v : Int), lo, hi)) rfl ?_
   ·simp only [c_seq, RUNA, RUNB, zAd, zMo, zDi, zSu, zMu, zEq, zBe, zLe, zTo, fillS, wantG, vBox, Value.cells, one, putAt]
   intro es' hM6
   rw [idxG_s gd.len hf] at hM6
   have z3 : ¬ b = mid := n1
   have z4 : ¬ τ'.next + 7 = mid := by omega
   have z5 : ¬ σ.next + 8 = mid := by omega
   simp only [YRUNA, YRUNB, zSh, bit, c_seq, RUNA, RUNB, zAd, zMo, zDi, zSu, zMu, zEq, zBe, zLe, zTo, fillS, wantG, vBox, Value.cells, one, putAt, TYA, k_tmp, k_val, List.append_toArray, List.nil_append, List.cons_append, mm_none, row_putm, s0, s9, rb5, rx5, hc1, hw, z3, z4, z5, hr]
   have hp := put_ok gd hv ht hu hto huo hne
   have hfl := fnd_len gd.len hf
   rw [put, if_neg hf, hfl] at hp
   have hOf : Own (((τ5.more 12).put mid (AObj.map es')).more 7) (τ'.next + 7) 3 (.slice (some ⟨τ'.next + 7, 0, none⟩) (l.length + 1) k3) (l ++ [((v : Int), lo, hi)]).length (flat (l ++ [((v : Int), lo, hi)])) := by
    rw [hl1]
    refine hO5.mono (by first | omega | (simp only [next_more, next_put] at *; omega)) ?_
    rw [row_more, row_put_ne z4, row_more]
   have hMf : MP enc3 (((τ5.more 12).put mid (AObj.map es')).more 7) mid (idxG (l ++ [((v : Int), lo, hi)])) := hM6.of rfl
   refine ⟨l ++ [((v : Int), lo, hi)], .node v t u, _, τ'.next + 7, rfl, ⟨⟨_, ?_, hOf⟩, hMf, hp.1, ⟨?_, ?_, ?_⟩, ⟨n1, by omega, by omega⟩⟩, ⟨_, rfl⟩, by omega, hp.2.1, ⟨Nat.le_refl _, hv, hne, hto, huo⟩, fun f => rfl, Or.inr ⟨by omega, by first | omega | (simp only [next_more, next_put] at *; omega)⟩, ?_, by repeat first | assumption | refine Fr.more ?_ _ | refine Fr.put ?_ _ _⟩
   ·simp only [c_seq, RUNA, RUNB, zAd, zMo, zDi, zSu, zMu, zEq, zBe, zLe, zTo, fillS, wantG, vBox, Value.cells, one, putAt, k_tmp, k_val, List.append_toArray, List.nil_append, List.cons_append, mm_none, row_putm, z3, rb5]
   ·have := hX5.next; first | omega | (simp only [next_more, next_put] at *; omega)
   ·have := hX5.next; first | omega | (simp only [next_more, next_put] at *; omega)
   ·first | omega | (simp only [next_more, next_put] at *; omega)
   ·exact (((hX5.more 12).put (Or.inr (Or.inr (Or.inl rfl))) _)).more 7
end Go.Proofs.Q
namespace Go.Proofs.Q
open Go.AI
set_option maxRecDepth 20000
theorem safe_spec {lo hi : Nat} {σ : St} {a : Value} {T : Dt} (ha : DVi lo hi σ a (cd T)) (hh : hi ≤ σ.next) (hT : T.ok 0) (hF : Fr σ) : wpc Tryz.prog 37 #[a] σ fun r σ' => r = a ∧ EX σ σ' := by
 obtain ⟨oa, ca, rfl, -⟩ := (ha.dv hh).open
 refine body_go Tryz.func37 rfl ?_
 have hr := Tryz.results37
 have hcl := cd_len hT (by omega)
 simp only [c_seq, RUNA, RUNB, zAd, zMo, zDi, zSu, zMu, zEq, zBe, zLe, zTo, fillS, wantG, vBox, Value.cells, one, putAt, TYA, hr]
 refine wpc_mono (Valid_spec (d := cd T) ((ha.dv hh).mono ?_) (by omega) (by repeat first | assumption | refine Fr.more ?_ _ | refine Fr.put ?_ _ _)) ?_
 ·repeat first | assumption | exact EXn.refl _ _ | refine EXn.more ?_ _ | refine EXn.put ?_ (by omega) _ | refine EX.trans ?_ (by assumption)
 rintro r σ1 ⟨⟨b, rfl, hb⟩, hE1⟩
 have n1 := hE1.next
 simp only [next_more, next_put] at n1
 have hb' : b = true := hb.2 (cd_valid hT)
 subst hb'
 have r0 : σ1.row σ.next = some ([.slice oa (cd T).1.length ca, .int .i64 (cd T).2], boxMeta) := by rw [hE1.row _ (by first | omega | (simp only [next_more, next_put] at *; omega))]; simp only [c_seq, RUNA, RUNB, zAd, zMo, zDi, zSu, zMu, zEq, zBe, zLe, zTo, fillS, wantG, vBox, Value.cells, one, putAt]
 have r1 : σ1.row (σ.next + 1) = some ([.slice none 0 0, .int .i64 0], boxMeta) := by rw [hE1.row _ (by first | omega | (simp only [next_more, next_put] at *; omega))]; simp only [c_seq, RUNA, RUNB, zAd, zMo, zDi, zSu, zMu, zEq, zBe, zLe, zTo, fillS, wantG, vBox, Value.cells, one, putAt]
 simp only [c_seq, RUNA, RUNB, zAd, zMo, zDi, zSu, zMu, zEq, zBe, zLe, zTo, fillS, wantG, vBox, Value.cells, one, putAt, TYA, hr, r0, r1]
 repeat first | assumption | exact EXn.refl _ _ | refine EXn.more ?_ _ | refine EXn.put ?_ (by omega) _ | refine EX.trans ?_ (by assumption)
end Go.Proofs.Q
