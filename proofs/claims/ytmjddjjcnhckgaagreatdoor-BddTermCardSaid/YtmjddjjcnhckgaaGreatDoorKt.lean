import Derived.Test.YtmjddjjcnhckgaaGreatDoorKs
import Derived.Test.YtmjddjjcnhckgaaGreatDoorKk
set_option linter.unusedVariables false
set_option linter.unusedSimpArgs false
set_option linter.constructorNameAsVariable false
open Nat renaming reduceAdd → zAd, reduceMod → zMo, reduceDiv → zDi, reduceSub → zSu, reduceMul → zMu, reduceEqDiff → zEq, reduceBEq → zBe, reduceLeDiff → zLe, reduceShiftRight → zSh
open Int renaming reduceToNat → zTo
namespace Go.Proofs.Q
open Go.AI
set_option maxRecDepth 20000
def encI (k : Int) : Value := .int .i64 k
theorem keyI : Keyed Tryz.prog 3 encI := by
 refine ⟨fun k => rfl, fun b k => ?_, Or.inl ⟨_, Tryz.underlying3, fun a b => ?_⟩, fun k => ?_⟩
 ·have : ∀ (b : Bool) (k : Int), still Tryz.prog (Instr.checkKey b 10000 3 (.int .i64 k)) = some () := fun b k => by kernel_rfl
  exact this b k
 ·simp only [encI, Instr.sameNow, if_true, Option.some.injEq]
  by_cases h : a = b <;> simp [h]
 ·simp [encI, Instr.sameBits]
structure AT (l L : List Vtx) (g : Int → Option Value) : Prop where
 gd : Gd L
 zero : g 0 = some (.int .i64 0)
 one : g 1 = some (.int .i64 1)
 to : ∀ k v, g k = some v → ∃ (n : Int) (t : Dt), v = .int .i64 n ∧ Rep l t k ∧ Rep L t n
 fro : ∀ (t : Dt) (k n : Int), Rep l t k → Rep L t n → g k = some (.int .i64 n)
theorem AT.new (l : List Vtx) : AT l c01 (fun k => if k = 1 then some (.int .i64 1) else if k = 0 then some (.int .i64 0) else none) := by
 refine ⟨gd01, rfl, rfl, fun k v h => ?_, fun t k n h1 h2 => ?_⟩
 ·split at h
  ·rename_i e; cases h; subst e; exact ⟨1, .leaf true, rfl, rfl, rfl⟩
  ·split at h
   ·rename_i e; cases h; subst e; exact ⟨0, .leaf false, rfl, rfl, rfl⟩
   ·cases h
 ·cases t with
  | leaf b =>
   simp only [Rep] at h1 h2
   subst h1; subst h2
   cases b <;> rfl
  | node v lo hi => obtain ⟨q, _, q2, q3, _⟩ := h2; simp [c01] at q3; omega
theorem AT.have {l L : List Vtx} {g : Int → Option Value} (h : AT l L g) {t : Dt} {k : Int} {v : Value} (ht : Rep l t k) (hg : g k = some v) : v = .int .i64 (num t L).1 ∧ (num t L).2 = L := by
 obtain ⟨n, t', rfl, h1, h2⟩ := h.to k v hg
 have := Rep.fn h1 ht
 subst this
 rw [num_id h.gd _ _ h2]; exact ⟨rfl, rfl⟩
theorem AT.miss {l L : List Vtx} {g : Int → Option Value} (h : AT l L g) {v : Nat} {lo hi : Dt} {k : Int} {n : Nat} (ht : Rep l (.node v lo hi) k) (ho : (Dt.node v lo hi).ok n) (hg : g k = none) :
    num (.node v lo hi) L = (((num hi (num lo L).2).2.length : Int), (num hi (num lo L).2).2 ++ [((v : Int), (num lo L).1, (num hi (num lo L).2).1)]) := by
 obtain ⟨g1, r1, _⟩ := num_ok lo L (v + 1) h.gd ho.2.2.2.1
 obtain ⟨g2, r2, _⟩ := num_ok hi (num lo L).2 (v + 1) g1 ho.2.2.2.2
 obtain ⟨g3, r3, s3, e3⟩ := num_ok (.node v lo hi) L n h.gd ho
 have hlt := Rep.lt g3.len r3
 have hge : (L.length : Int) ≤ (num (.node v lo hi) L).1 := by
  by_cases q : (num (.node v lo hi) L).1 < (L.length : Int)
  ·obtain ⟨j, hj⟩ : ∃ j : Nat, (num (.node v lo hi) L).1 = j := ⟨_, (Int.toNat_of_nonneg hlt.1).symm⟩
   rw [e3, hj] at r3
   have := h.fro _ _ _ ht (r3.pre h.gd (by omega))
   rw [hg] at this; cases this
  ·omega
 have hm := num_root h.gd ho hge
 rw [num_node, put, if_neg hm, fnd_len g2.len hm]
theorem AT.snoc {l L L' : List Vtx} {g : Int → Option Value} (gl : Gd l) (h : AT l L g) {x : Vtx} {t : Dt} {k : Int} (hL : L' = L ++ [x]) (gd' : Gd L') (ht : Rep l t k) (hr : Rep L' t (L.length : Int)) : AT l L' (mset g k (.int .i64 (L.length : Int))) := by
 subst hL
 have l2 := h.gd.len
 have hk : k ≠ 0 ∧ k ≠ 1 := by
  cases t with
  | leaf b => simp only [Rep] at hr; split at hr <;> omega
  | node v lo hi => obtain ⟨q, rfl, q2, _⟩ := ht; omega
 refine ⟨gd', ?_, ?_, fun k' v hv => ?_, fun t' k' n h1 h2 => ?_⟩
 ·unfold mset; rw [if_neg (fun e => hk.1 e.symm)]; exact h.zero
 ·unfold mset; rw [if_neg (fun e => hk.2 e.symm)]; exact h.one
 ·unfold mset at hv
  split at hv
  ·rename_i e; cases hv; subst e; exact ⟨_, t, rfl, ht, hr⟩
  ·obtain ⟨n, t', e1, e2, e3⟩ := h.to k' v hv
   exact ⟨n, t', e1, e2, e3.mono⟩
 ·unfold mset
  by_cases e : k' = k
  ·rw [if_pos e]
   subst e
   have := Rep.fn h1 ht
   subst this
   rw [Rep.inj gd' h2 hr]
  ·rw [if_neg e]
   have hn := Rep.lt gd'.len h2
   obtain ⟨j, rfl⟩ : ∃ j : Nat, n = j := ⟨_, (Int.toNat_of_nonneg hn.1).symm⟩
   by_cases hj : j < L.length
   ·exact h.fro _ _ _ h1 (h2.pre h.gd hj)
   ·rw [List.length_append, List.length_cons, List.length_nil] at hn
    obtain rfl : j = L.length := by omega
    have := Rep.fn h2 hr
    subst this
    exact (e (Rep.inj gl h1 ht)).elim
end Go.Proofs.Q
namespace Go.Proofs.Q
open Go.AI
structure VD (ba bt' bv bd b am ds tid toff tc mid : Nat) (l : List Vtx) (rt : Int) (σ : St) (L : List Vtx) (g : Int → Option Value) : Prop where
 fr : Fr σ
 ra : σ.row ba = some ([.map (some am)], boxMeta)
 rtb : σ.row bt' = some ([.pointer (some ⟨b, 0, none⟩)], boxMeta)
 rv : σ.row bv = some ([.func (.func 96) #[] #[.pointer (some ⟨ba, 0, none⟩), .pointer (some ⟨bt', 0, none⟩), .pointer (some ⟨bv, 0, none⟩), .pointer (some ⟨bd, 0, none⟩)]], boxMeta)
 rd : ∃ sv, σ.row bd = some ([sv, .int .i64 rt], boxMeta) ∧ Own σ ds 3 sv L.length (flat L)
 rb : σ.row b = some ([.slice (some ⟨tid, toff, none⟩) l.length tc, .map (some mid)], boxMeta)
 rl : ∃ row m, σ.row tid = some (row, m) ∧ (row.drop toff).take (l.length * 3) = flat l
 mp : MP encI σ am g
 at' : AT l L g
 lt : ba < σ.next ∧ bt' < σ.next ∧ bv < σ.next ∧ bd < σ.next ∧ b < σ.next ∧ am < σ.next ∧ ds < σ.next ∧ tid < σ.next
 ne : am ≠ ba ∧ am ≠ bt' ∧ am ≠ bv ∧ am ≠ bd ∧ am ≠ b ∧ am ≠ tid ∧ bd ≠ ba ∧ bd ≠ bt' ∧ bd ≠ bv ∧ bd ≠ b ∧ bd ≠ tid
 nd : ds ≠ ba ∧ ds ≠ bt' ∧ ds ≠ bv ∧ ds ≠ bd ∧ ds ≠ b ∧ ds ≠ tid ∧ ds ≠ am
def dX (am bd ds : Nat) : Nat → Prop := fun id => id = am ∨ id = bd ∨ id = ds
theorem VD.mono {ba bt' bv bd b am ds tid toff tc mid : Nat} {l : List Vtx} {rt : Int} {σ τ : St} {L : List Vtx} {g : Int → Option Value} (h : VD ba bt' bv bd b am ds tid toff tc mid l rt σ L g) (e : EX σ τ) : VD ba bt' bv bd b am ds tid toff tc mid l rt τ L g := by
 obtain ⟨h1, h2, h3, h4, ⟨sv, h5, h5'⟩, h6, ⟨row, m, h7, h7'⟩, h8, h9, ⟨k1, k2, k3, k4, k5, k6, k7, k8⟩, h11, h12⟩ := h
 have := e.next
 exact ⟨e.fr h1, (e.row ba k1).trans h2, (e.row bt' k2).trans h3, (e.row bv k3).trans h4, ⟨sv, (e.row bd k4).trans h5, h5'.mono e.next (e.row ds k7)⟩, (e.row b k5).trans h6, ⟨row, m, (e.row tid k8).trans h7, h7'⟩, h8.of (e.get am k6), h9, ⟨by omega, by omega, by omega, by omega, by omega, by omega, by omega, by omega⟩, h11, h12⟩
theorem VD.put {ba bt' bv bd b am ds tid toff tc mid : Nat} {l : List Vtx} {rt : Int} {σ : St} {L : List Vtx} {g : Int → Option Value} {k : Nat} {ob : AObj} (h : VD ba bt' bv bd b am ds tid toff tc mid l rt σ L g)
    (hk : ba ≠ k ∧ bt' ≠ k ∧ bv ≠ k ∧ bd ≠ k ∧ b ≠ k ∧ am ≠ k ∧ ds ≠ k ∧ tid ≠ k) : VD ba bt' bv bd b am ds tid toff tc mid l rt (σ.put k ob) L g := by
 obtain ⟨h1, h2, h3, h4, ⟨sv, h5, h5'⟩, h6, ⟨row, m, h7, h7'⟩, h8, h9, h10, h11, h12⟩ := h
 obtain ⟨k1, k2, k3, k4, k5, k6, k7, k8⟩ := hk
 exact ⟨h1, (row_put_ne k1).trans h2, (row_put_ne k2).trans h3, (row_put_ne k3).trans h4, ⟨sv, (row_put_ne k4).trans h5, h5'.mono (Nat.le_refl _) (row_put_ne k7)⟩, (row_put_ne k5).trans h6, ⟨row, m, (row_put_ne k8).trans h7, h7'⟩, h8.of (by rw [St.get_put, if_neg k6]), h9, h10, h11, h12⟩
theorem EXF.but {X : Nat → Prop} {σ τ τ' : St} {a b : Nat} (h : EXF X σ τ) (k : But a b τ τ') (ha : σ.next ≤ a ∨ X a) (hb : σ.next ≤ b ∨ X b) : EXF X σ τ' := by
 have ne : ∀ c, (σ.next ≤ c ∨ X c) → ∀ id, id < σ.next → ¬ X id → id ≠ c := by
  intro c hc id hi hx e
  subst e
  rcases hc with hc | hc
  ·omega
  ·exact hx hc
 exact ⟨by rw [k.next]; exact h.next, fun id hi hx => (k.get id (ne a ha id hi hx) (ne b hb id hi hx)).trans (h.get id hi hx), fun id hi hx => (k.row id (ne a ha id hi hx) (ne b hb id hi hx)).trans (h.row id hi hx), fun f => But.fr k (h.fr f), fun g hg => by
  have := h.ver g hg
  unfold St.ver at this ⊢; rw [k.vers]; exact this⟩
theorem VD.step {ba bt' bv bd b am ds tid toff tc mid : Nat} {l : List Vtx} {rt : Int} {σ F : St} {L L' : List Vtx} {g g' : Int → Option Value} {ds' x0 : Nat} {sv : Value} (h : VD ba bt' bv bd b am ds tid toff tc mid l rt σ L g)
    (hn : σ.next ≤ F.next) (kr : ∀ id, id < σ.next → id ≠ bd → id ≠ am → id ≠ ds → id ≠ x0 → F.row id = σ.row id) (hx0 : ba ≠ x0 ∧ bt' ≠ x0 ∧ bv ≠ x0 ∧ b ≠ x0 ∧ tid ≠ x0)
    (hFF : Fr F) (hbd : F.row bd = some ([sv, .int .i64 rt], boxMeta)) (hO : Own F ds' 3 sv L'.length (flat L')) (hmp : MP encI F am g') (hat : AT l L' g') (hd1 : σ.next ≤ ds') (hd2 : ds' < F.next) : VD ba bt' bv bd b am ds' tid toff tc mid l rt F L' g' := by
 obtain ⟨h1, h2, h3, h4, h5, h6, ⟨row, m, h7, h7'⟩, h8, h9, ⟨k1, k2, k3, k4, k5, k6, k7, k8⟩, h11, h12⟩ := h
 have nn := h11
 obtain ⟨a1, a2, a3, a4, a5, a6, b1, b2, b3, b4, b5⟩ := nn
 obtain ⟨c1, c2, c3, c4, c5, c6, c7⟩ := h12
 obtain ⟨x1, x2, x3, x4, x5⟩ := hx0
 have gt : ∀ k, k < σ.next → ds' ≠ k := fun k hk => Nat.ne_of_gt (Nat.lt_of_lt_of_le hk hd1)
 have lt : ∀ k, k < σ.next → k < F.next := fun k hk => Nat.lt_of_lt_of_le hk hn
 exact ⟨hFF, (kr ba k1 b1.symm a1.symm c1.symm x1).trans h2, (kr bt' k2 b2.symm a2.symm c2.symm x2).trans h3, (kr bv k3 b3.symm a3.symm c3.symm x3).trans h4, ⟨sv, hbd, hO⟩, (kr b k5 b4.symm a5.symm c5.symm x4).trans h6,
  ⟨row, m, (kr tid k8 b5.symm a6.symm c6.symm x5).trans h7, h7'⟩, hmp, hat, ⟨lt _ k1, lt _ k2, lt _ k3, lt _ k4, lt _ k5, lt _ k6, hd2, lt _ k8⟩, h11, ⟨gt _ k1, gt _ k2, gt _ k3, gt _ k4, gt _ k5, gt _ k8, gt _ k6⟩⟩
def DOut (ba bt' bv bd b am ds tid toff tc mid : Nat) (l : List Vtx) (rt : Int) (T : Dt) (L : List Vtx) (σ : St) (r : Value) (σ' : St) : Prop := ∃ ds' g', r = .int .i64 (num T L).1 ∧ VD ba bt' bv bd b am ds' tid toff tc mid l rt σ' (num T L).2 g' ∧ (ds' = ds ∨ (σ.next ≤ ds' ∧ ds' < σ'.next)) ∧ EXF (dX am bd ds) σ σ'
theorem lkA {σ : St} {id : Nat} {g : Int → Option Value} (h : MP encI σ id g) (k : Int) {v : Value} (hk : g k = some v) (ok : Bool) : alookup Tryz.prog σ 123 (.map (some id)) (.int .i64 k) ok = some (bif ok then .tuple #[v, .bool true] else v) :=
 lookup_some keyI Tryz.underlying123 h (k := k) hk ok
theorem lkA0 {σ : St} {id : Nat} {g : Int → Option Value} (h : MP encI σ id g) (k : Int) (hk : g k = none) (ok : Bool) : alookup Tryz.prog σ 123 (.map (some id)) (.int .i64 k) ok = some (bif ok then .tuple #[.int .i64 0, .bool false] else .int .i64 0) :=
 lookup_none keyI Tryz.underlying123 h (k := k) hk (z := .int .i64 0) (by kernel_rfl) rfl ok
set_option maxHeartbeats 2000000 in
theorem dvisit (ba bt' bv bd b am tid toff tc mid : Nat) (l : List Vtx) (rt : Int) (gl : Gd l) (hln : l.length ≤ 1000000) : ∀ (T : Dt) (i : Int) (σ : St) (ds : Nat) (L : List Vtx) (g : Int → Option Value) (lv : Nat), Rep l T i → T.ok lv → lv ≤ 10 → L.length + 2 ^ (10 - lv) ≤ 5000 → VD ba bt' bv bd b am ds tid toff tc mid l rt σ L g →
    wpc Tryz.prog 96 #[.int .i64 i, .pointer (some ⟨ba, 0, none⟩), .pointer (some ⟨bt', 0, none⟩), .pointer (some ⟨bv, 0, none⟩), .pointer (some ⟨bd, 0, none⟩)] σ (DOut ba bt' bv bd b am ds tid toff tc mid l rt T L σ) := by
 have hit : ∀ (T : Dt) (i : Int) (σ : St) (ds : Nat) (L : List Vtx) (g : Int → Option Value) (v : Value), Rep l T i → VD ba bt' bv bd b am ds tid toff tc mid l rt σ L g → g i = some v →
      wpc Tryz.prog 96 #[.int .i64 i, .pointer (some ⟨ba, 0, none⟩), .pointer (some ⟨bt', 0, none⟩), .pointer (some ⟨bv, 0, none⟩), .pointer (some ⟨bd, 0, none⟩)] σ (DOut ba bt' bv bd b am ds tid toff tc mid l rt T L σ) := by
  intro T i σ ds L g v hR hV hg
  refine body_go Tryz.func96 rfl ?_
  have hr := Tryz.results96
  obtain ⟨h1, h2⟩ := hV.at'.have hR hg
  have hlk : ∀ τ : St, τ.get am = σ.get am → alookup Tryz.prog τ 123 (.map (some am)) (.int .i64 i) true = some (.tuple #[v, .bool true]) := fun τ e => (lk_get e).trans (lkA hV.mp i hg true)
  have hlk' := hlk ((σ.more 1).more 8) rfl
  simp only [c_seq, RUNA, RUNB, zAd, zMo, zDi, zSu, zMu, zEq, zBe, zLe, zTo, fillS, wantG, vBox, Value.cells, one, putAt, TYA, hr, hV.ra, hlk']
  have e : EX σ ((((σ.more 1).more 8).more 1).more 2) := by repeat first | assumption | exact EXn.refl _ _ | refine EXn.more ?_ _ | refine EXn.put ?_ (by omega) _ | refine EX.trans ?_ (by assumption)
  exact ⟨ds, g, h1, by rw [h2]; exact hV.mono e, Or.inl rfl, .of e⟩
 intro T
 induction T with
 | leaf c =>
  intro i σ ds L g lv hR ho hlv hsz hV
  have : ∃ v, g i = some v := by
   simp only [Rep] at hR
   cases c with
   | true => exact ⟨_, by rw [hR]; exact hV.at'.one⟩
   | false => exact ⟨_, by rw [hR]; exact hV.at'.zero⟩
  obtain ⟨v, hg⟩ := this
  exact hit _ i σ ds L g v hR hV hg
 | node vv lo hi ih1 ih2 =>
  intro i σ ds L g lv hR ho hlv hsz hV
  cases hg : g i with
  | some v => exact hit _ i σ ds L g v hR hV hg
  | none =>
   have hRR := hR
   obtain ⟨k, rfl, k2, k3, k4, k5, k6⟩ := hR
   refine body_go Tryz.func96 rfl ?_
   have hr := Tryz.results96
   have hlk : ∀ τ : St, τ.get am = σ.get am → alookup Tryz.prog τ 123 (.map (some am)) (.int .i64 (k : Int)) true = some (.tuple #[.int .i64 0, .bool false]) := fun τ e => (lk_get e).trans (lkA0 hV.mp _ hg true)
   have hlk' := hlk ((σ.more 1).more 8) rfl
   obtain ⟨row, m, rl1, rl2⟩ := hV.rl
   have ck := row_cut rl2 k3
   have z0 : (0 : Int) ≤ (k : Int) := by omega
   have z1 : (k : Int) < (l.length : Int) := by omega
   have hlt := hV.lt
   have q1 : ¬ bv = σ.next + 17 := by omega
   simp only [c_seq, RUNA, RUNB, zAd, zMo, zDi, zSu, zMu, zEq, zBe, zLe, zTo, fillS, wantG, vBox, Value.cells, one, putAt, TYA, hr, hV.ra, hlk', hV.rtb, hV.rb, ia39 z0 z1, rl1, ck, hV.rv, q1]
   have hv10 := ho.2.1
   have hp2 : 2 ^ (10 - vv) = 2 * 2 ^ (10 - (vv + 1)) := by rw [show 10 - vv = (10 - (vv + 1)) + 1 by omega, Nat.pow_succ]; omega
   have hp3 : 2 ^ (10 - vv) ≤ 2 ^ (10 - lv) := Nat.pow_le_pow_right (by decide) (by have := ho.1; omega)
   refine wpc_mono (ih1 (vx l k).2.1 _ ds L g (vv + 1) k5 ho.2.2.2.1 (by omega) (by omega) (hV.mono ?_)) ?_
   ·repeat first | assumption | exact EXn.refl _ _ | refine EXn.more ?_ _ | refine EXn.put ?_ (by omega) _ | refine EX.trans ?_ (by assumption)
   rintro r σ1 ⟨ds1, g1, rfl, hV1, hs1, hX1⟩
   have n1 := hX1.next
   simp only [next_more, next_put] at n1 hs1
   have nx : ∀ d, (d = ds ∨ σ.next + 18 ≤ d) → ¬ dX am bd d (σ.next + 17) := fun d hd h => by
    rcases h with h | h | h
    ·omega
    ·omega
    ·omega
   have x1 : σ1.row (σ.next + 17) = some ([.int .i64 (vx l k).1, .int .i64 (vx l k).2.1, .int .i64 (vx l k).2.2], boxMeta) := by
    rw [hX1.row _ (by first | omega | (simp only [next_more, next_put] at *; omega)) (nx ds (Or.inl rfl))]; simp only [c_seq, RUNA, RUNB, zAd, zMo, zDi, zSu, zMu, zEq, zBe, zLe, zTo, fillS, wantG, vBox, Value.cells, one, putAt]
   have hV1' := hV1
   have hlt1 := hV1.lt
   simp only [c_seq, RUNA, RUNB, zAd, zMo, zDi, zSu, zMu, zEq, zBe, zLe, zTo, fillS, wantG, vBox, Value.cells, one, putAt, TYA, x1, hV1.rv, q1]
   have hl1 := num_len lo L (vv + 1) ho.2.2.2.1 (by omega)
   refine wpc_mono (ih2 (vx l k).2.2 _ ds1 (num lo L).2 g1 (vv + 1) k6 ho.2.2.2.2 (by omega) (by omega) ((hV1.put ?_).mono ((EX.refl _).more 6))) ?_
   ·refine ⟨by omega, by omega, by omega, by omega, by omega, by omega, by omega, by omega⟩
   rintro r σ2 ⟨ds2, g2, rfl, hV2, hs2, hX2⟩
   have n2 := hX2.next
   simp only [next_more, next_put] at n2 hs2
   have x2 : σ2.row (σ.next + 17) = some ([.int .i64 (vx l k).1, .int .i64 (num lo L).1, .int .i64 (vx l k).2.2], boxMeta) := by
    rw [hX2.row _ (by first | omega | (simp only [next_more, next_put] at *; omega)) (nx ds1 (by omega))]; simp only [c_seq, RUNA, RUNB, zAd, zMo, zDi, zSu, zMu, zEq, zBe, zLe, zTo, fillS, wantG, vBox, Value.cells, one, putAt]
   have hlt2 := hV2.lt
   obtain ⟨sv, rd2, hO2⟩ := hV2.rd
   have q2 : ¬ bd = σ.next + 17 := by omega
   have bsn := bs23_1
   simp only [c_seq, RUNA, RUNB, zAd, zMo, zDi, zSu, zMu, zEq, zBe, zLe, zTo, fillS, wantG, vBox, Value.cells, one, putAt, TYA, x2, rd2, q2, bsn]
   have hmiss := hV.at'.miss hRR ho hg
   have hl2 := num_len hi (num lo L).2 (vv + 1) ho.2.2.2.2 (by omega)
   obtain ⟨L2, hL2⟩ : ∃ L2, L2 = (num hi (num lo L).2).2 := ⟨_, rfl⟩
   obtain ⟨x, hx⟩ : ∃ x : Vtx, x = ((vx l k).1, (num lo L).1, (num hi (num lo L).2).1) := ⟨_, rfl⟩
   rw [← hx]
   refine app_ex (app_own (id := ds2) (n := L2.length) (cs := flat L2) (z := 3) (x := 1) (xs := flat [x]) (Own.mono (by rw [hL2]; exact hO2) ?_ ?_) Tryz.underlying39 Tryz.underlying39 if54 rfl ?_ rfl (by omega) (by omega) rfl (by omega) ?_ ?_ (by omega) (by rw [hL2]; omega) rfl) ?_
   ·first | omega | (simp only [next_more, next_put] at *; omega)
   ·rw [row_put_ne (by omega), row_more, row_put_ne (by omega)]
   ·simp only [aSource, row_put, if_true, good_row]; rfl
   ·rw [ver_put, ver_more, ver_put]; exact hV2.fr _ (by omega)
   ·first | omega | (simp only [next_more, next_put] at *; omega)
   rintro r σ3 ⟨hO3, hB⟩
   have bn := hB.next
   simp only [next_put, next_more] at bn
   have hO3' := hO3
   obtain ⟨k3', m3', rfl, w1, w2, w3, w4, w5, w6⟩ := hO3'
   have rd3 : σ3.row bd = some ([sv, .int .i64 rt], boxMeta) := by rw [hB.row bd hV2.nd.2.2.2.1.symm (by omega), row_put_ne (by omega), row_more, row_put_ne (by omega)]; exact rd2
   have ra3 : σ3.row ba = some ([.map (some am)], boxMeta) := by rw [hB.row ba hV2.nd.1.symm (by omega), row_put_ne (by omega), row_more, row_put_ne (by omega)]; exact hV2.ra
   have nn := hV2.ne
   have y1 : ¬ ba = bd := fun e => nn.2.2.2.2.2.2.1 e.symm
   simp only [c_seq, RUNA, RUNB, zAd, zMo, zDi, zSu, zMu, zEq, zBe, zLe, zTo, fillS, wantG, vBox, Value.cells, one, putAt, TYA, rd3, ra3, y1]
   have hmp3 : MP encI σ3 am g2 := hV2.mp.of (by rw [hB.get am hV2.nd.2.2.2.2.2.2.symm (by omega), St.get_put, if_neg (by omega), get_more, St.get_put, if_neg (by omega)])
   have hw : IntKind.i64.wrap (((L2.length + 1 : Nat) : Int) - 1) = ((L2.length : Nat) : Int) := by rw [wrap64 (by omega) (by rw [hL2]; omega)]; omega
   rw [hw]
   refine update_ex keyI Tryz.underlying123 hmp3 ?_ (k := (k : Int)) rfl ?_
   ·have : ¬ am = bd := nn.2.2.2.1
    simp only [c_seq, RUNA, RUNB, zAd, zMo, zDi, zSu, zMu, zEq, zBe, zLe, zTo, fillS, wantG, vBox, Value.cells, one, putAt, this]
   intro es' hM6
   have hlk6 := fun (τ : St) (e : τ.get am = (((σ3.put bd (AObj.cells [Value.slice (some { block := σ2.next + 4, off := 0 }) (L2.length + 1) k3', Value.int IntKind.i64 rt] boxMeta)).more 7).put am (AObj.map es')).get am) => (lk_get (P := Tryz.prog) (t := 123) (k := .int .i64 (k : Int)) (ok := false) e).trans (lkA hM6 (k : Int) (v := .int .i64 (L2.length : Int)) (by simp [mset]) false)
   have y2 : ¬ ba = am := fun e => nn.1 e.symm
   have hlk7 := hlk6 ((((σ3.put bd (AObj.cells [Value.slice (some { block := σ2.next + 4, off := 0 }) (L2.length + 1) k3', Value.int IntKind.i64 rt] boxMeta)).more 7).put am (AObj.map es')).more 4) rfl
   simp only [c_seq, RUNA, RUNB, zAd, zMo, zDi, zSu, zMu, zEq, zBe, zLe, zTo, fillS, wantG, vBox, Value.cells, one, putAt, TYA, ra3, y1, y2, hlk7, hr, cond_false]
   obtain ⟨F, hFe⟩ : ∃ F, F = ((((σ3.put bd (AObj.cells [Value.slice (some { block := σ2.next + 4, off := 0 }) (L2.length + 1) k3', Value.int IntKind.i64 rt] boxMeta)).more 7).put am (AObj.map es')).more 4) := ⟨_, rfl⟩
   rw [← hFe]
   have Fn : F.next = σ3.next + 7 + 4 := by rw [hFe]; rfl
   have hX0 : EXF (dX am bd ds) σ σ1 := EXF.comp (EXF.of (by repeat first | assumption | exact EXn.refl _ _ | refine EXn.more ?_ _ | refine EXn.put ?_ (by omega) _ | refine EX.trans ?_ (by assumption))) (fun _ _ y => y) hX1
   have hXa : EXF (dX am bd ds) σ σ2 := by
    refine EXF.comp ((hX0.put (k := σ.next + 17) (Or.inl (by omega)) _).more 6) (fun id hid y => ?_) hX2
    rcases y with y | y | y
    ·exact Or.inl y
    ·exact Or.inr (Or.inl y)
    ·rcases hs1 with e | e
     ·exact Or.inr (Or.inr (y.trans e))
     ·omega
   have hd2 : σ.next ≤ ds2 ∨ dX am bd ds ds2 := by
    rcases hs2 with e | e
    ·rcases hs1 with e' | e'
     ·exact Or.inr (Or.inr (Or.inr (e.trans e')))
     ·exact Or.inl (by omega)
    ·exact Or.inl (by omega)
   have hXb : EXF (dX am bd ds) σ F := by
    rw [hFe]
    refine EXF.more (EXF.put (EXF.more (EXF.put (EXF.but ?_ hB hd2 (Or.inl (by omega))) (Or.inr (Or.inr (Or.inl rfl))) _) 7) (Or.inr (Or.inl rfl)) _) 4
    repeat first | assumption | exact EXF.refl _ _ | refine EXF.more ?_ _ | refine EXF.put ?_ (Or.inl (by omega)) _
   have kr : ∀ id, id < σ2.next → id ≠ bd → id ≠ am → id ≠ ds2 → id ≠ σ.next + 17 → F.row id = σ2.row id := by
    intro id h1 h2 h3 h4 h5
    rw [hFe, row_more, row_put_ne h3, row_more, row_put_ne h2, hB.row id h4 (by omega), row_put_ne (by omega), row_more, row_put_ne h5]
   have hFF : Fr F := hXb.fr hV.fr
   have hxe : x = ((vv : Int), (num lo L).1, (num hi (num lo L).2).1) := by rw [hx, k4]
   have hnum : num (.node vv lo hi) L = ((L2.length : Int), L2 ++ [x]) := by rw [hmiss, hL2, hxe]
   obtain ⟨g3, r3, _⟩ := num_ok (.node vv lo hi) L lv hV.at'.gd ho
   rw [hnum] at g3 r3
   have hat : AT l L2 g2 := by rw [hL2]; exact hV2.at'
   have hOF : Own F (σ2.next + 4) 3 (.slice (some ⟨σ2.next + 4, 0, none⟩) (L2.length + 1) k3') (L2 ++ [x]).length (flat (L2 ++ [x])) := by
    rw [flat_append, List.length_append]
    refine hO3.mono (by omega) ?_
    rw [hFe, row_more, row_put_ne (Nat.ne_of_gt (by omega)), row_more, row_put_ne (Nat.ne_of_gt (by omega))]
   rw [← hL2] at hV2
   refine ⟨σ2.next + 4, mset g2 k (.int .i64 (L2.length : Int)), by rw [hnum], ?_, Or.inr ⟨by omega, by omega⟩, hXb⟩
   rw [hnum]
   refine hV2.step (by omega) kr ⟨by omega, by omega, by omega, by omega, by omega⟩ hFF ?_ hOF ?_ (hat.snoc gl rfl g3 hRR r3) (by omega) (by omega)
   ·rw [hFe, row_more, row_put_ne nn.2.2.2.1.symm, row_more, row_put, if_pos rfl]; rfl
   ·exact hM6.of (by rw [hFe]; rfl)
end Go.Proofs.Q
namespace Go.Proofs.Q
open Go.AI
theorem EXF.ex {X : Nat → Prop} {σ τ : St} (h : EXF X σ τ) (hx : ∀ id, id < σ.next → ¬ X id) : EX σ τ := ⟨h.next, fun id hi => h.get id hi (hx id hi), fun id hi => h.row id hi (hx id hi), h.fr, h.ver⟩
set_option maxHeartbeats 1000000 in
theorem tdiagram_spec {b mid s : Nat} {σ : St} {l : List Vtx} {T : Dt} {n : Int} (hT : TBL b mid s σ l) (hF : Fr σ) (hlen : l.length ≤ 1000000) (hR : Rep l T n) (ho : T.ok 0) :
    wpc Tryz.prog 87 #[.pointer (some ⟨b, 0, none⟩), .int .i64 n] σ fun r σ' => DVi σ.next σ'.next σ' r (cd T) ∧ EX σ σ' := by
 refine body_go Tryz.func87 rfl ?_
 have hr := Tryz.results87
 simp only [c_seq, RUNA, RUNB, zAd, zMo, zDi, zSu, zMu, zEq, zBe, zLe, zTo, fillS, wantG, vBox, Value.cells, one, putAt, TYA, hr]
 refine wpc_mono (constants_spec _) ?_
 rintro r σ2 ⟨id, rfl, h1, h2, h3, hE⟩
 simp only [next_more, next_put] at h1
 have hn := hE.next
 simp only [next_more, next_put] at hn
 simp only [c_seq, RUNA, RUNB, zAd, zMo, zDi, zSu, zMu, zEq, zBe, zLe, zTo, fillS, wantG, vBox, Value.cells, one, putAt, TYA, bd25_1]
 refine update_ex keyI Tryz.underlying123 (MP.new ?_) rfl (k := 0) rfl ?_
 ·rw [St.get_put, if_pos rfl]
 intro es1 hM1
 simp only [c_seq, RUNA, RUNB, zAd, zMo, zDi, zSu, zMu, zEq, zBe, zLe, zTo, fillS, wantG, vBox, Value.cells, one, putAt, TYA]
 refine update_ex keyI Tryz.underlying123 hM1 rfl (k := 1) rfl ?_
 intro es2 hM2
 obtain ⟨⟨sv, rb, hO⟩, mp, gd, ⟨l1, l2, l3⟩, ⟨m1, m2, m3'⟩⟩ := hT
 obtain ⟨kc, mm, rfl, o1, o2, o3, o4, o5, o6⟩ := hO
 simp only [c_seq, RUNA, RUNB, zAd, zMo, zDi, zSu, zMu, zEq, zBe, zLe, zTo, fillS, wantG, vBox, Value.cells, one, putAt, TYA]
 have e2 : EX σ σ2 := by repeat first | assumption | exact EXn.refl _ _ | refine EXn.more ?_ _ | refine EXn.put ?_ (by omega) _ | refine EX.trans ?_ (by assumption)
 have rt2 : σ2.row σ.next = some ([.pointer (some ⟨b, 0, none⟩)], boxMeta) := by rw [hE.row _ (by first | omega | (simp only [next_more, next_put] at *; omega))]; simp only [c_seq, RUNA, RUNB, zAd, zMo, zDi, zSu, zMu, zEq, zBe, zLe, zTo, fillS, wantG, vBox, Value.cells, one, putAt]
 have rr2 : σ2.row (σ.next + 1) = some ([.slice none 0 0, .int .i64 0], boxMeta) := by rw [hE.row _ (by first | omega | (simp only [next_more, next_put] at *; omega))]; simp only [c_seq, RUNA, RUNB, zAd, zMo, zDi, zSu, zMu, zEq, zBe, zLe, zTo, fillS, wantG, vBox, Value.cells, one, putAt]
 have q1 : ¬ id = σ.next + 4 := by omega
 have q2 : ¬ id = σ2.next := by omega
 have q3 : ¬ id = σ2.next + 4 := by omega
 have q4 : ¬ id = σ2.next + 6 := by omega
 have q5 : ¬ σ.next + 4 = σ2.next := by omega
 have q6 : ¬ σ.next + 4 = σ2.next + 4 := by omega
 have q7 : ¬ σ.next + 4 = σ2.next + 6 := by omega
 have f2 := e2.fr hF
 have hp : 2 ^ (10 - 0) = 1024 := rfl
 have hc : c01.length = 2 := rfl
 refine wpc_mono (dvisit (σ2.next + 4) σ.next (σ2.next + 6) (σ.next + 4) b σ2.next s 0 kc mid l 0 gd hlen T n _ id c01 _ 0 hR ho (by omega) (by omega)
  ⟨by repeat first | assumption | refine Fr.more ?_ _ | refine Fr.put ?_ _ _, ?_, ?_, ?_, ⟨.slice (some ⟨id, 0, none⟩) 2 2, ?_, ⟨2, rowMeta 3, rfl, ?_, ?_, rfl, rfl, rfl, Or.inl rfl⟩⟩, ?_, ⟨flat l, mm, ?_, ?_⟩, hM2.of ?_, AT.new l, ⟨?_, ?_, ?_, ?_, ?_, ?_, ?_, ?_⟩, ⟨by omega, by omega, by omega, by omega, by omega, by omega, by omega, by omega, by omega, by omega, by omega⟩, ⟨by omega, by omega, by omega, by omega, by omega, by omega, by omega⟩⟩) ?_
 ·simp only [c_seq, RUNA, RUNB, zAd, zMo, zDi, zSu, zMu, zEq, zBe, zLe, zTo, fillS, wantG, vBox, Value.cells, one, putAt]
 ·rw [EXn.row (n := σ.next + 2) (σ := σ2) (by repeat first | assumption | exact EXn.refl _ _ | refine EXn.more ?_ _ | refine EXn.put ?_ (by omega) _ | refine EX.trans ?_ (by assumption)) _ (by omega)]; exact rt2
 ·simp only [c_seq, RUNA, RUNB, zAd, zMo, zDi, zSu, zMu, zEq, zBe, zLe, zTo, fillS, wantG, vBox, Value.cells, one, putAt]
 ·simp only [c_seq, RUNA, RUNB, zAd, zMo, zDi, zSu, zMu, zEq, zBe, zLe, zTo, fillS, wantG, vBox, Value.cells, one, putAt, q5, q6, q7]
 ·first | omega | (simp only [next_more, next_put] at *; omega)
 ·simp only [c_seq, RUNA, RUNB, zAd, zMo, zDi, zSu, zMu, zEq, zBe, zLe, zTo, fillS, wantG, vBox, Value.cells, one, putAt, q1, q2, q3, q4, h3]
 ·rw [EXn.row (n := σ.next + 2) (σ := σ2) (by repeat first | assumption | exact EXn.refl _ _ | refine EXn.more ?_ _ | refine EXn.put ?_ (by omega) _ | refine EX.trans ?_ (by assumption)) _ (by omega), e2.row _ l1]; exact rb
 ·rw [EXn.row (n := σ.next + 2) (σ := σ2) (by repeat first | assumption | exact EXn.refl _ _ | refine EXn.more ?_ _ | refine EXn.put ?_ (by omega) _ | refine EX.trans ?_ (by assumption)) _ (by omega), e2.row _ l3]; exact o2
 ·rw [List.drop_zero, List.take_of_length_le (by omega)]
 ·simp only [c_seq, RUNA, RUNB, zAd, zMo, zDi, zSu, zMu, zEq, zBe, zLe, zTo, fillS, wantG, vBox, Value.cells, one, putAt]
 ·first | omega | (simp only [next_more, next_put] at *; omega)
 ·first | omega | (simp only [next_more, next_put] at *; omega)
 ·first | omega | (simp only [next_more, next_put] at *; omega)
 ·first | omega | (simp only [next_more, next_put] at *; omega)
 ·first | omega | (simp only [next_more, next_put] at *; omega)
 ·first | omega | (simp only [next_more, next_put] at *; omega)
 ·first | omega | (simp only [next_more, next_put] at *; omega)
 ·first | omega | (simp only [next_more, next_put] at *; omega)
 rintro r σ3 ⟨ds, g, rfl, hV, hs, hX⟩
 have n3 := hX.next
 simp only [next_more, next_put] at n3 hs
 obtain ⟨sv, rd3, hO3⟩ := hV.rd
 obtain ⟨k3, m3, rfl, w1, w2, w3, w4, w5, w6⟩ := hO3
 have rr3 : σ3.row (σ.next + 1) = some ([.slice none 0 0, .int .i64 0], boxMeta) := by
  rw [hX.row _ (by first | omega | (simp only [next_more, next_put] at *; omega)) (fun x => by rcases x with x | x | x <;> omega), EXn.row (n := σ.next + 2) (σ := σ2) (by repeat first | assumption | exact EXn.refl _ _ | refine EXn.more ?_ _ | refine EXn.put ?_ (by omega) _ | refine EX.trans ?_ (by assumption)) _ (by omega)]; exact rr2
 have q8 : ¬ σ.next + 1 = σ.next + 4 := by omega
 simp only [c_seq, RUNA, RUNB, zAd, zMo, zDi, zSu, zMu, zEq, zBe, zLe, zTo, fillS, wantG, vBox, Value.cells, one, putAt, TYA, rd3, rr3, hr]
 have hds : σ.next + 5 ≤ ds := by omega
 have e3 : EX σ σ3 := by
  refine EXF.ex (X := dX σ2.next (σ.next + 4) id) (EXF.comp (EXF.of ?_) (fun _ _ y => y) hX) (fun i hi x => by rcases x with x | x | x <;> omega)
  repeat first | assumption | exact EXn.refl _ _ | refine EXn.more ?_ _ | refine EXn.put ?_ (by omega) _ | refine EX.trans ?_ (by assumption)
 refine ⟨⟨_, rfl, Or.inl ⟨ds, 0, k3, flat (num T c01).2, m3, rfl, by omega, by omega, ?_, ?_⟩⟩, ?_⟩
 ·rw [row_put_ne (by omega), row_more, row_put_ne (by omega), w2, m3_eq w5]
 ·rw [List.drop_zero, List.take_of_length_le (by rw [flat_length]; exact Nat.le_refl _)]; rfl
 ·repeat first | assumption | exact EXn.refl _ _ | refine EXn.more ?_ _ | refine EXn.put ?_ (by omega) _ | refine EX.trans ?_ (by assumption)
end Go.Proofs.Q
