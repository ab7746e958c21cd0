/- bdd.Count: the walk. bdd.Count: the number of satisfying values. -/
import Derived.Test.YtlealdhgajomhaaBddCc
namespace Go.Proofs.Ytlealdhgajomhaa
open Go.AI
set_option linter.unusedVariables false
set_option linter.unusedSimpArgs false

theorem lvT_lvl {l : List Vtx} {A : Dt} {i N : Nat} (h : Rep l A i) (hN : N ≤ 10) : min (lvl l i) N = lvT N A := by
  cases A with
  | leaf b =>
    have : i < 2 := by simp only [Rep] at h; split at h <;> omega
    simp only [lvl, this, if_true, lvT]; omega
  | node v lo hi =>
    obtain ⟨k, h1, h2, h3, h4, _⟩ := h
    obtain rfl : i = k := by omega
    have h5 : ¬ i < 2 := by omega
    simp only [lvl, h5, if_false, h4, Int.toNat_natCast, lvT]
theorem min_nat {x y : Nat} : (if ((y : Nat) : Int) < ((x : Nat) : Int) then ((y : Nat) : Int) else ((x : Nat) : Int)) = ((min x y : Nat) : Int) := by
  split <;> omega
theorem at_spec {σ : St} {bd bn : Nat} {ld : List Vtx} {rd : Int} {od : Option Addr} {kd N i : Nat} (gd : Gd ld) (hi : i < ld.length)
    (r1 : σ.row bd = some ([.slice od ld.length kd, .int .i64 rd], boxMeta)) (r2 : σ.row bn = some ([.int .i64 N], boxMeta)) (l1 : bd < σ.next) (l2 : bn < σ.next) (hdv : DV σ (.agg #[.slice od ld.length kd, .int .i64 rd]) (ld, rd)) :
    wpc Try.prog 56 #[.int .i64 i, .pointer (some ⟨bd, 0, none⟩), .pointer (some ⟨bn, 0, none⟩)] σ fun r σ' => r = .int .i64 (min (lvl ld i) N : Nat) ∧ EX σ σ' := by
  refine body_go Try.func56 rfl ?_
  have hr := Try.results56
  simp only [c_seq, RUNA, RUNB, Nat.reduceAdd, Nat.reduceMod, Nat.reduceDiv, Nat.reduceSub, Nat.reduceMul, Nat.reduceEqDiff, Nat.reduceBEq, Nat.reduceLeDiff, Int.reduceToNat, fillS, wantG, vBox, Value.cells, one, putAt, TYA, hr]
  refine d_go (ms := [0, 0, 3, 0, 15, 31]) (order := [0, 1, 3, 2, 4, 5]) (by kernel_rfl) (by kernel_rfl) (by kernel_rfl) ?_
  simp only [YRUNA, YRUNB, Nat.reduceShiftRight, bit, c_seq, RUNA, RUNB, Nat.reduceAdd, Nat.reduceMod, Nat.reduceDiv, Nat.reduceSub, Nat.reduceMul, Nat.reduceEqDiff, Nat.reduceBEq, Nat.reduceLeDiff, Int.reduceToNat, fillS, wantG, vBox, Value.cells, one, putAt, TYA, r1, r2]
  refine wpc_mono (level_spec (hdv.mono ?_) gd hi) ?_
  · repeat first | assumption | exact EXn.refl _ _ | refine EXn.more ?_ _ | refine EXn.put ?_ (by omega) _ | refine EX.trans ?_ (by assumption)
  rintro r σ1 ⟨rfl, hE1⟩
  have n1 := hE1.next
  simp only [next_more] at n1
  have e1 : EX σ σ1 := by repeat first | assumption | exact EXn.refl _ _ | refine EXn.more ?_ _ | refine EXn.put ?_ (by omega) _ | refine EX.trans ?_ (by assumption)
  simp only [YRUNA, YRUNB, Nat.reduceShiftRight, bit, c_seq, RUNA, RUNB, Nat.reduceAdd, Nat.reduceMod, Nat.reduceDiv, Nat.reduceSub, Nat.reduceMul, Nat.reduceEqDiff, Nat.reduceBEq, Nat.reduceLeDiff, Int.reduceToNat, fillS, wantG, vBox, Value.cells, one, putAt, TYA, (e1.row bd l1).trans r1, (e1.row bn l2).trans r2, k_min2, min2_i, min_nat, hr]
  repeat first | assumption | exact EXn.refl _ _ | refine EXn.more ?_ _ | refine EXn.put ?_ (by omega) _ | refine EX.trans ?_ (by assumption)
theorem shlc {c e : Nat} (hc : c * 2 ^ e ≤ 1024) (he : e ≤ 10) : IntKind.i64.wrap ((c : Int) * 2 ^ (min e IntKind.i64.bits)) = ((c * 2 ^ e : Nat) : Int) := by
  rw [show min e IntKind.i64.bits = e from Nat.min_eq_left (show e ≤ 64 by omega), show (2 : Int) ^ e = ((2 ^ e : Nat) : Int) from (Int.natCast_pow 2 e).symm, ← Int.natCast_mul]
  exact wrap64 (by omega) (by omega)
theorem cnt_sh {N v : Nat} {T : Dt} (h : T.ok (v + 1)) (hv : v < N) (hN : N ≤ 10) : cntT N T * 2 ^ (lvT N T - v - 1) ≤ 1024 := by
  have h1 := cntT_le (n := N) h
  have h2 : 2 ^ N ≤ 2 ^ 10 := Nat.pow_le_pow_right (by decide) hN
  have h3 : 2 ^ (lvT N T - v - 1) ≤ 2 ^ lvT N T := Nat.pow_le_pow_right (by decide) (by omega)
  have h4 : cntT N T * 2 ^ (lvT N T - v - 1) ≤ cntT N T * 2 ^ lvT N T := Nat.mul_le_mul_left _ h3
  omega
structure CV (H : List (Nat × (List Value × Mta))) (dm N : Nat) (ld : List Vtx) (g : Int → Option Value) (σ : St) : Prop where
  fr : Fr σ
  kp : Keep σ H
  mp : MP encI σ dm g
  lt : dm < σ.next
  ks : ∀ p ∈ H, p.1 ≠ dm
  inv : ∀ k v, g k = some v → ∀ A, Rep ld A k → v = .int .i64 (cntT N A : Nat)
  pr : ∀ k ∈ [(0 : Int), 1], ∃ v, g k = some v
theorem CV.mono {H : List (Nat × (List Value × Mta))} {dm N : Nat} {ld : List Vtx} {g : Int → Option Value} {σ τ : St} (h : CV H dm N ld g σ) (e : EX σ τ) : CV H dm N ld g τ :=
  ⟨e.fr h.fr, h.kp.mono e, h.mp.of (e.get dm h.lt), Nat.lt_of_lt_of_le h.lt e.next, h.ks, h.inv, h.pr⟩
theorem CV.upd {H : List (Nat × (List Value × Mta))} {dm N : Nat} {ld : List Vtx} {g : Int → Option Value} {σ : St} (h : CV H dm N ld g σ) {es' : List (Value × Value)} {k : Int} {c : Nat} (hm : MP encI (σ.put dm (.map es')) dm (mset g k (.int .i64 c))) (hr : ∀ A, Rep ld A k → c = cntT N A) : CV H dm N ld (mset g k (.int .i64 c)) (σ.put dm (.map es')) := by
  refine ⟨h.fr, fun p hp => ⟨(h.kp p hp).1, (row_put_ne (h.ks p hp)).trans (h.kp p hp).2⟩, hm, h.lt, h.ks, fun k' v hk A hA => ?_, fun k' hk => ?_⟩
  · unfold mset at hk
    split at hk
    · rename_i e; cases hk; subst e; rw [hr A hA]
    · exact h.inv k' v hk A hA
  · unfold mset
    split
    · exact ⟨_, rfl⟩
    · exact h.pr k' hk
def COut (H : List (Nat × (List Value × Mta))) (dm N : Nat) (ld : List Vtx) (A : Dt) (σ : St) (r : Value) (σ' : St) : Prop := r = .int .i64 (cntT N A : Nat) ∧ (∃ g', CV H dm N ld g' σ') ∧ EXb dm σ σ'
def cvS (k : Nat) (bdn bd bn bv ba : Nat) (S : Slots) : Prop := S.at 0 = .int .i64 k ∧ S.at 1 = .pointer (some ⟨bdn, 0, none⟩) ∧ S.at 2 = .pointer (some ⟨bd, 0, none⟩) ∧ S.at 3 = .pointer (some ⟨bn, 0, none⟩) ∧ S.at 4 = .pointer (some ⟨bv, 0, none⟩) ∧ S.at 5 = .pointer (some ⟨ba, 0, none⟩)
/-- after the branches of a visit -/
def cvJ (H : List (Nat × (List Value × Mta))) (dm N : Nat) (ld : List Vtx) (A : Dt) (k bdn : Nat) (σ : St) (S : Slots) (τ : St) : Prop :=
  S.at 0 = .int .i64 k ∧ S.at 1 = .pointer (some ⟨bdn, 0, none⟩) ∧ S.at 11 = .int .i64 (cntT N A : Nat) ∧ (∃ g', CV H dm N ld g' τ) ∧ EXb dm σ τ
set_option maxHeartbeats 4000000 in
theorem cvisit (H : List (Nat × (List Value × Mta))) (bdn bd bn bv ba dm N : Nat) (hN : N ≤ 10) (ld : List Vtx) (rd : Int) (od : Option Addr) (kd : Nat) (gd : Gd ld)
    (k1 : ∀ τ, Keep τ H → τ.row bdn = some ([.map (some dm)], boxMeta))
    (k2 : ∀ τ, Keep τ H → (τ.row bd = some ([.slice od ld.length kd, .int .i64 rd], boxMeta) ∧ bd < τ.next) ∧ DV τ (.agg #[.slice od ld.length kd, .int .i64 rd]) (ld, rd))
    (k3 : ∀ τ, Keep τ H → τ.row bn = some ([.int .i64 N], boxMeta) ∧ bn < τ.next)
    (k4 : ∀ τ, Keep τ H → τ.row bv = some ([.func (.func 58) #[] #[.pointer (some ⟨bdn, 0, none⟩), .pointer (some ⟨bd, 0, none⟩), .pointer (some ⟨bn, 0, none⟩), .pointer (some ⟨bv, 0, none⟩), .pointer (some ⟨ba, 0, none⟩)]], boxMeta))
    (k5 : ∀ τ, Keep τ H → τ.row ba = some ([.func (.func 56) #[] #[.pointer (some ⟨bd, 0, none⟩), .pointer (some ⟨bn, 0, none⟩)]], boxMeta)) :
    ∀ (A : Dt) (k lv : Nat) (σ : St) (g : Int → Option Value), Rep ld A k → A.ok lv → CV H dm N ld g σ →
      wpc Try.prog 58 #[.int .i64 k, .pointer (some ⟨bdn, 0, none⟩), .pointer (some ⟨bd, 0, none⟩), .pointer (some ⟨bn, 0, none⟩), .pointer (some ⟨bv, 0, none⟩), .pointer (some ⟨ba, 0, none⟩)] σ (COut H dm N ld A σ) := by
  have hit : ∀ (A : Dt) (k : Nat) (σ : St) (g : Int → Option Value) (v : Value), Rep ld A k → CV H dm N ld g σ → g (k : Int) = some v →
      wpc Try.prog 58 #[.int .i64 k, .pointer (some ⟨bdn, 0, none⟩), .pointer (some ⟨bd, 0, none⟩), .pointer (some ⟨bn, 0, none⟩), .pointer (some ⟨bv, 0, none⟩), .pointer (some ⟨ba, 0, none⟩)] σ (COut H dm N ld A σ) := by
    intro A k σ g v hR hV hg
    refine body_go Try.func58 rfl ?_
    have hr := Try.results58
    obtain rfl := hV.inv _ _ hg A hR
    have hlk : ∀ τ : St, τ.get dm = σ.get dm → alookup Try.prog τ 71 (.map (some dm)) (.int .i64 k) true = some (.tuple #[.int .i64 (cntT N A : Nat), .bool true]) := fun τ e => (lk_get e).trans (lkA hV.mp _ hg true)
    have hlk' := hlk ((σ.more 1).more 8) rfl
    simp only [c_seq, RUNA, RUNB, Nat.reduceAdd, Nat.reduceMod, Nat.reduceDiv, Nat.reduceSub, Nat.reduceMul, Nat.reduceEqDiff, Nat.reduceBEq, Nat.reduceLeDiff, Int.reduceToNat, fillS, wantG, vBox, Value.cells, one, putAt, TYA, hr, k1 σ hV.kp, hlk']
    refine ⟨rfl, ⟨g, hV.mono ?_⟩, EXb.of ?_⟩
    · repeat first | assumption | exact EXn.refl _ _ | refine EXn.more ?_ _ | refine EXn.put ?_ (by omega) _ | refine EX.trans ?_ (by assumption)
    · repeat first | assumption | exact EXn.refl _ _ | refine EXn.more ?_ _ | refine EXn.put ?_ (by omega) _ | refine EX.trans ?_ (by assumption)
  intro A
  induction A with
  | leaf c =>
    intro k lv σ g hR ho hV
    have : ∃ v, g (k : Int) = some v := by
      have hR' := hR
      simp only [Rep] at hR'
      rw [hR']
      cases c with
      | true => exact hV.pr 1 (by simp)
      | false => exact hV.pr 0 (by simp)
    obtain ⟨v, hg⟩ := this
    exact hit _ k σ g v hR hV hg
  | node vv lo hi ih1 ih2 =>
    intro k lv σ g hR ho hV
    cases hg : g (k : Int) with
    | some v => exact hit _ k σ g v hR hV hg
    | none =>
      have hRR := hR
      obtain ⟨kk, hkk, k2', k3', k4', k5', k6'⟩ := hR
      obtain rfl : k = kk := by omega
      have hv10 := ho.2.1
      refine body_go Try.func58 rfl ?_
      have hr := Try.results58
      have hlk : ∀ τ : St, τ.get dm = σ.get dm → alookup Try.prog τ 71 (.map (some dm)) (.int .i64 k) true = some (.tuple #[.int .i64 0, .bool false]) := fun τ e => (lk_get e).trans (lkA0 hV.mp _ hg true)
      have hlk' := hlk ((σ.more 1).more 8) rfl
      have hdv := (k2 σ hV.kp).2
      obtain ⟨o', c', e', hop⟩ := hdv.open
      simp only [Value.agg.injEq, Array.mk.injEq, List.cons.injEq, Value.slice.injEq, and_true, true_and] at e'
      obtain ⟨rfl, rfl⟩ := e'
      obtain ⟨did, doff, drow, dmm, rfl, d1, d2, d3⟩ := hop (by simp only; omega)
      simp only at d3
      have ck := row_cut d3 k3'
      have z0 : (0 : Int) ≤ (k : Int) := by omega
      have z1 : (k : Int) < (ld.length : Int) := by omega
      refine wpx_seq ?_
      simp only [RUNA, RUNB, Nat.reduceAdd, Nat.reduceMod, Nat.reduceDiv, Nat.reduceSub, Nat.reduceMul, Nat.reduceEqDiff, Nat.reduceBEq, Nat.reduceLeDiff, Int.reduceToNat, fillS, wantG, vBox, Value.cells, one, putAt, TYA]
      refine wpx_seq (wpx_seq ?_)
      simp only [RUNA, RUNB, Nat.reduceAdd, Nat.reduceMod, Nat.reduceDiv, Nat.reduceSub, Nat.reduceMul, Nat.reduceEqDiff, Nat.reduceBEq, Nat.reduceLeDiff, Int.reduceToNat, fillS, wantG, vBox, Value.cells, one, putAt, TYA, k1 σ hV.kp, hlk']
      refine wpx_seq ?_
      simp only [RUNA, RUNB, Nat.reduceAdd, Nat.reduceMod, Nat.reduceDiv, Nat.reduceSub, Nat.reduceMul, Nat.reduceEqDiff, Nat.reduceBEq, Nat.reduceLeDiff, Int.reduceToNat, fillS, wantG, vBox, Value.cells, one, putAt, TYA]
      refine wpx_seq ?_
      simp only [RUNA, RUNB, Nat.reduceAdd, Nat.reduceMod, Nat.reduceDiv, Nat.reduceSub, Nat.reduceMul, Nat.reduceEqDiff, Nat.reduceBEq, Nat.reduceLeDiff, Int.reduceToNat, fillS, wantG, vBox, Value.cells, one, putAt, TYA, (k2 σ hV.kp).1.1, ia23 z0 z1, d2, ck]
      refine wpx_seq ?_
      simp only [RUNA, RUNB, Nat.reduceAdd, Nat.reduceMod, Nat.reduceDiv, Nat.reduceSub, Nat.reduceMul, Nat.reduceEqDiff, Nat.reduceBEq, Nat.reduceLeDiff, Int.reduceToNat, fillS, wantG, vBox, Value.cells, one, putAt, TYA]
      refine seq_cut (cvJ H dm N ld (.node vv lo hi) k bdn σ) ?_ ?_
      · refine gen_go (fun S τ => cvS k bdn bd bn bv ba S ∧ S.at 10 = .pointer (some ⟨σ.next + 15, 0, none⟩) ∧ EX σ τ ∧ σ.next + 15 < τ.next ∧ τ.row (σ.next + 15) = some ([.int .i64 vv, .int .i64 (vx ld k).2.1, .int .i64 (vx ld k).2.2], boxMeta)) ?_ ?_
        · simp only [c_seq, RUNA, RUNB, Nat.reduceAdd, Nat.reduceMod, Nat.reduceDiv, Nat.reduceSub, Nat.reduceMul, Nat.reduceEqDiff, Nat.reduceBEq, Nat.reduceLeDiff, Int.reduceToNat, fillS, wantG, vBox, Value.cells, one, putAt, cvS, k4']
          refine ⟨?_, by omega⟩
          repeat first | assumption | exact EXn.refl _ _ | refine EXn.more ?_ _ | refine EXn.put ?_ (by omega) _ | refine EX.trans ?_ (by assumption)
        rintro S τ ⟨⟨s0, s1, s2, s3, s4, s5⟩, s10, hE, hx, rx⟩
        have hVt := hV.mono hE
        have hk := hVt.kp
        have hltd := hV.lt
        obtain ⟨xl, hxl⟩ : ∃ q : Nat, (vx ld k).2.1 = q := ⟨_, (Int.toNat_of_nonneg (gd.lo k k2' k3').1).symm⟩
        obtain ⟨xh, hxh⟩ : ∃ q : Nat, (vx ld k).2.2 = q := ⟨_, (Int.toNat_of_nonneg (gd.hi k k2' k3').1).symm⟩
        rw [hxl, hxh] at rx
        rw [hxl] at k5'
        rw [hxh] at k6'
        by_cases hvN : N ≤ vv
        · have hd : decide ((N : Int) ≤ (vv : Int)) = true := by simp; omega
          simp only [c_seq, RUNA, RUNB, Nat.reduceAdd, Nat.reduceMod, Nat.reduceDiv, Nat.reduceSub, Nat.reduceMul, Nat.reduceEqDiff, Nat.reduceBEq, Nat.reduceLeDiff, Int.reduceToNat, fillS, wantG, vBox, Value.cells, one, putAt, TYA, s0, s1, s2, s3, s4, s5, s10, rx, (k3 τ hk).1, k4 τ hk, hd]
          refine wpc_mono (ih1 xl (vv + 1) _ g k5' ho.2.2.2.1 (hVt.mono ?_)) ?_
          · repeat first | assumption | exact EXn.refl _ _ | refine EXn.more ?_ _ | refine EXn.put ?_ (by omega) _ | refine EX.trans ?_ (by assumption)
          rintro r σ5 ⟨rfl, ⟨g5, hV5⟩, hX5⟩
          simp only [c_seq, RUNA, RUNB, Nat.reduceAdd, Nat.reduceMod, Nat.reduceDiv, Nat.reduceSub, Nat.reduceMul, Nat.reduceEqDiff, Nat.reduceBEq, Nat.reduceLeDiff, Int.reduceToNat, fillS, wantG, vBox, Value.cells, one, putAt, TYA, s0, s1]
          refine ⟨by simp only [c_seq, RUNA, RUNB, Nat.reduceAdd, Nat.reduceMod, Nat.reduceDiv, Nat.reduceSub, Nat.reduceMul, Nat.reduceEqDiff, Nat.reduceBEq, Nat.reduceLeDiff, Int.reduceToNat, fillS, wantG, vBox, Value.cells, one, putAt, s0], by simp only [c_seq, RUNA, RUNB, Nat.reduceAdd, Nat.reduceMod, Nat.reduceDiv, Nat.reduceSub, Nat.reduceMul, Nat.reduceEqDiff, Nat.reduceBEq, Nat.reduceLeDiff, Int.reduceToNat, fillS, wantG, vBox, Value.cells, one, putAt, s1], ?_, ⟨g5, hV5⟩, ?_⟩
          · simp only [c_seq, RUNA, RUNB, Nat.reduceAdd, Nat.reduceMod, Nat.reduceDiv, Nat.reduceSub, Nat.reduceMul, Nat.reduceEqDiff, Nat.reduceBEq, Nat.reduceLeDiff, Int.reduceToNat, fillS, wantG, vBox, Value.cells, one, putAt, cntT, hvN]
          · exact (EXb.of (by repeat first | assumption | exact EXn.refl _ _ | refine EXn.more ?_ _ | refine EXn.put ?_ (by omega) _ | refine EX.trans ?_ (by assumption))).trans hX5
        · have hd : decide ((N : Int) ≤ (vv : Int)) = false := by simp; omega
          simp only [c_seq, RUNA, RUNB, Nat.reduceAdd, Nat.reduceMod, Nat.reduceDiv, Nat.reduceSub, Nat.reduceMul, Nat.reduceEqDiff, Nat.reduceBEq, Nat.reduceLeDiff, Int.reduceToNat, fillS, wantG, vBox, Value.cells, one, putAt, TYA, s0, s1, s2, s3, s4, s5, s10, rx, (k3 τ hk).1, k4 τ hk, hd]
          refine gen_go (fun S τ' => cvS k bdn bd bn bv ba S ∧ S.at 10 = .pointer (some ⟨σ.next + 15, 0, none⟩) ∧ EX τ τ') ?_ ?_
          · simp only [c_seq, RUNA, RUNB, Nat.reduceAdd, Nat.reduceMod, Nat.reduceDiv, Nat.reduceSub, Nat.reduceMul, Nat.reduceEqDiff, Nat.reduceBEq, Nat.reduceLeDiff, Int.reduceToNat, fillS, wantG, vBox, Value.cells, one, putAt, cvS, s0, s1, s2, s3, s4, s5, s10]
            repeat first | assumption | exact EXn.refl _ _ | refine EXn.more ?_ _ | refine EXn.put ?_ (by omega) _ | refine EX.trans ?_ (by assumption)
          clear s0 s1 s2 s3 s4 s5 s10
          rintro S τ4 ⟨⟨s0, s1, s2, s3, s4, s5⟩, s10, hE4⟩
          have hV4 := hVt.mono hE4
          have hk4 := hV4.kp
          have rx4 := (hE4.row (σ.next + 15) hx).trans rx
          have n4 := hE4.next
          have ex4 : EX σ τ4 := EX.trans hE hE4
          have gl := lvT_ge (n := N) ho.2.2.2.1 (by omega)
          have gh := lvT_ge (n := N) ho.2.2.2.2 (by omega)
          have ll := lvT_le N lo
          have lh := lvT_le N hi
          have hxll : xl < ld.length := by have := Rep.lt gd.len k5'; omega
          have hxhl : xh < ld.length := by have := Rep.lt gd.len k6'; omega
          have c1 := cnt_sh (N := N) ho.2.2.2.1 (by omega) hN
          have c2 := cnt_sh (N := N) ho.2.2.2.2 (by omega) hN
          have w1 : IntKind.i64.wrap ((lvT N lo : Int) - (vv : Int)) = ((lvT N lo - vv : Nat) : Int) := by rw [wrap64 (by omega) (by omega)]; omega
          have w2 : IntKind.i64.wrap (((lvT N lo - vv : Nat) : Int) - 1) = ((lvT N lo - vv - 1 : Nat) : Int) := by rw [wrap64 (by omega) (by omega)]; omega
          have w3 := shlc c1 (by omega)
          have u1 : IntKind.i64.wrap ((lvT N hi : Int) - (vv : Int)) = ((lvT N hi - vv : Nat) : Int) := by rw [wrap64 (by omega) (by omega)]; omega
          have u2 : IntKind.i64.wrap (((lvT N hi - vv : Nat) : Int) - 1) = ((lvT N hi - vv - 1 : Nat) : Int) := by rw [wrap64 (by omega) (by omega)]; omega
          have u3 := shlc c2 (by omega)
          have y1 : (0 : Int) ≤ ((lvT N lo - vv - 1 : Nat) : Int) := Int.natCast_nonneg _
          have y2 : (0 : Int) ≤ ((lvT N hi - vv - 1 : Nat) : Int) := Int.natCast_nonneg _
          have hcn : cntT N (.node vv lo hi) = cntT N lo * 2 ^ (lvT N lo - vv - 1) + cntT N hi * 2 ^ (lvT N hi - vv - 1) := by simp only [cntT, hvN, if_false]
          obtain ⟨C1, hC1⟩ : ∃ C1, C1 = cntT N lo * 2 ^ (lvT N lo - vv - 1) := ⟨_, rfl⟩
          obtain ⟨C2, hC2⟩ : ∃ C2, C2 = cntT N hi * 2 ^ (lvT N hi - vv - 1) := ⟨_, rfl⟩
          rw [← hC1] at w3 c1 hcn
          rw [← hC2] at u3 c2 hcn
          have w4 : IntKind.i64.wrap ((C1 : Int) + (C2 : Int)) = ((C1 + C2 : Nat) : Int) := by rw [wrap64 (by omega) (by omega)]; omega
          refine d_go (ms := [0, 0, 2, 7, 0, 0, 32, 127, 0, 256, 1023, 2047, 4095, 0, 0, 16384, 57599, 0, 0, 262144, 1040639, 0, 2097152, 8380671, 16769279, 33546495, 67108863, 134217727]) (order := [0, 1, 2, 4, 5, 6, 8, 9, 13, 14, 15, 17, 18, 19, 21, 22, 3, 7, 10, 11, 12, 16, 20, 23, 24, 25, 26, 27]) (by kernel_rfl) (by kernel_rfl) (by kernel_rfl) ?_
          simp only [YRUNA, YRUNB, Nat.reduceShiftRight, bit, c_seq, RUNA, RUNB, Nat.reduceAdd, Nat.reduceMod, Nat.reduceDiv, Nat.reduceSub, Nat.reduceMul, Nat.reduceEqDiff, Nat.reduceBEq, Nat.reduceLeDiff, Int.reduceToNat, fillS, wantG, vBox, Value.cells, one, putAt, TYA, s0, s1, s2, s3, s4, s5, s10, rx4, k4 τ4 hk4, k5 τ4 hk4]
          refine wpc_dgen (fun S => S.at 0 = .int .i64 k ∧ S.at 1 = .pointer (some ⟨bdn, 0, none⟩) ∧ S.at 37 = .func (.func 56) #[] #[.pointer (some ⟨bd, 0, none⟩), .pointer (some ⟨bn, 0, none⟩)] ∧ S.at 39 = .int .i64 xl ∧ S.at 42 = .int .i64 vv ∧ S.at 46 = .func (.func 58) #[] #[.pointer (some ⟨bdn, 0, none⟩), .pointer (some ⟨bd, 0, none⟩), .pointer (some ⟨bn, 0, none⟩), .pointer (some ⟨bv, 0, none⟩), .pointer (some ⟨ba, 0, none⟩)] ∧ S.at 48 = .int .i64 xh ∧ S.at 50 = .func (.func 56) #[] #[.pointer (some ⟨bd, 0, none⟩), .pointer (some ⟨bn, 0, none⟩)] ∧ S.at 52 = .int .i64 xh ∧ S.at 55 = .int .i64 vv) ?_ ?_
          · simp only [c_seq, RUNA, RUNB, Nat.reduceAdd, Nat.reduceMod, Nat.reduceDiv, Nat.reduceSub, Nat.reduceMul, Nat.reduceEqDiff, Nat.reduceBEq, Nat.reduceLeDiff, Int.reduceToNat, fillS, wantG, vBox, Value.cells, one, putAt, s0, s1]
          clear s0 s1 s2 s3 s4 s5 s10
          rintro S ⟨s0, s1, s37, s39, s42, s46, s48, s50, s52, s55⟩
          refine wpc_mono (ih1 xl (vv + 1) _ g k5' ho.2.2.2.1 (hV4.mono ?_)) ?_
          · repeat first | assumption | exact EXn.refl _ _ | refine EXn.more ?_ _ | refine EXn.put ?_ (by omega) _ | refine EX.trans ?_ (by assumption)
          rintro r σ5 ⟨rfl, ⟨g5, hV5⟩, hX5⟩
          have n5 := hX5.next
          simp only [next_more] at n5
          have hk5 := hV5.kp
          have rx5 : σ5.row (σ.next + 15) = some ([.int .i64 vv, .int .i64 xl, .int .i64 xh], boxMeta) := (hX5.row _ (by first | omega | (simp only [next_more, next_put] at *; omega)) (by omega)).trans rx4
          have xa : EXb dm σ σ5 := (EXb.of (by repeat first | assumption | exact EXn.refl _ _ | refine EXn.more ?_ _ | refine EXn.put ?_ (by omega) _ | refine EX.trans ?_ (by assumption))).trans hX5
          simp only [YRUNA, YRUNB, Nat.reduceShiftRight, bit, c_seq, RUNA, RUNB, Nat.reduceAdd, Nat.reduceMod, Nat.reduceDiv, Nat.reduceSub, Nat.reduceMul, Nat.reduceEqDiff, Nat.reduceBEq, Nat.reduceLeDiff, Int.reduceToNat, fillS, wantG, vBox, Value.cells, one, putAt, TYA, s0, s1, s37, s39, s42, s46, s48, s50, s52, s55, rx5, k4 σ5 hk5, k5 σ5 hk5]
          refine wpc_mono (at_spec gd hxll (k2 σ5 hk5).1.1 (k3 σ5 hk5).1 (k2 σ5 hk5).1.2 (k3 σ5 hk5).2 (k2 σ5 hk5).2) ?_
          rintro r σ6 ⟨rfl, hE6⟩
          rw [lvT_lvl k5' hN]
          have n6 := hE6.next
          have hV6 := hV5.mono hE6
          have hk6 := hV6.kp
          have rx6 := (hE6.row (σ.next + 15) (by omega)).trans rx5
          simp only [YRUNA, YRUNB, Nat.reduceShiftRight, bit, c_seq, RUNA, RUNB, Nat.reduceAdd, Nat.reduceMod, Nat.reduceDiv, Nat.reduceSub, Nat.reduceMul, Nat.reduceEqDiff, Nat.reduceBEq, Nat.reduceLeDiff, Int.reduceToNat, fillS, wantG, vBox, Value.cells, one, putAt, TYA, s0, s1, s37, s39, s42, s46, s48, s50, s52, s55, rx6, k4 σ6 hk6, k5 σ6 hk6, w1, w2, n_shl y1, w3]
          refine wpc_dgen (fun S => S.at 0 = .int .i64 k ∧ S.at 1 = .pointer (some ⟨bdn, 0, none⟩) ∧ S.at 45 = .int .i64 (C1 : Nat) ∧ S.at 50 = .func (.func 56) #[] #[.pointer (some ⟨bd, 0, none⟩), .pointer (some ⟨bn, 0, none⟩)] ∧ S.at 52 = .int .i64 xh ∧ S.at 55 = .int .i64 vv) ?_ ?_
          · simp only [c_seq, RUNA, RUNB, Nat.reduceAdd, Nat.reduceMod, Nat.reduceDiv, Nat.reduceSub, Nat.reduceMul, Nat.reduceEqDiff, Nat.reduceBEq, Nat.reduceLeDiff, Int.reduceToNat, fillS, wantG, vBox, Value.cells, one, putAt, s0, s1, s50, s52, s55]
          clear s0 s1 s37 s39 s42 s46 s48 s50 s52 s55
          rintro S ⟨s0, s1, s45, s50, s52, s55⟩
          refine wpc_mono (ih2 xh (vv + 1) _ g5 k6' ho.2.2.2.2 hV6) ?_
          rintro r σ7 ⟨rfl, ⟨g7, hV7⟩, hX7⟩
          have n7 := hX7.next
          have hk7 := hV7.kp
          have rx7 := (hX7.row (σ.next + 15) (by omega) (by omega)).trans rx6
          have xb : EXb dm σ σ7 := (xa.thn hE6).trans hX7
          simp only [YRUNA, YRUNB, Nat.reduceShiftRight, bit, c_seq, RUNA, RUNB, Nat.reduceAdd, Nat.reduceMod, Nat.reduceDiv, Nat.reduceSub, Nat.reduceMul, Nat.reduceEqDiff, Nat.reduceBEq, Nat.reduceLeDiff, Int.reduceToNat, fillS, wantG, vBox, Value.cells, one, putAt, TYA, s0, s1, s45, s50, s52, s55, rx7, k4 σ7 hk7, k5 σ7 hk7]
          refine wpc_mono (at_spec gd hxhl (k2 σ7 hk7).1.1 (k3 σ7 hk7).1 (k2 σ7 hk7).1.2 (k3 σ7 hk7).2 (k2 σ7 hk7).2) ?_
          rintro r σ8 ⟨rfl, hE8⟩
          rw [lvT_lvl k6' hN]
          have hV8 := hV7.mono hE8
          have hk8 := hV8.kp
          have rx8 := (hE8.row (σ.next + 15) (by omega)).trans rx7
          simp only [YRUNA, YRUNB, Nat.reduceShiftRight, bit, c_seq, RUNA, RUNB, Nat.reduceAdd, Nat.reduceMod, Nat.reduceDiv, Nat.reduceSub, Nat.reduceMul, Nat.reduceEqDiff, Nat.reduceBEq, Nat.reduceLeDiff, Int.reduceToNat, fillS, wantG, vBox, Value.cells, one, putAt, TYA, s0, s1, s45, s50, s52, s55, rx8, k4 σ8 hk8, k5 σ8 hk8, u1, u2, n_shl y2, u3, w4]
          refine ⟨by simp only [c_seq, RUNA, RUNB, Nat.reduceAdd, Nat.reduceMod, Nat.reduceDiv, Nat.reduceSub, Nat.reduceMul, Nat.reduceEqDiff, Nat.reduceBEq, Nat.reduceLeDiff, Int.reduceToNat, fillS, wantG, vBox, Value.cells, one, putAt, s0], by simp only [c_seq, RUNA, RUNB, Nat.reduceAdd, Nat.reduceMod, Nat.reduceDiv, Nat.reduceSub, Nat.reduceMul, Nat.reduceEqDiff, Nat.reduceBEq, Nat.reduceLeDiff, Int.reduceToNat, fillS, wantG, vBox, Value.cells, one, putAt, s1], ?_, ⟨g7, hV8⟩, xb.thn hE8⟩
          rw [hcn]
          simp only [c_seq, RUNA, RUNB, Nat.reduceAdd, Nat.reduceMod, Nat.reduceDiv, Nat.reduceSub, Nat.reduceMul, Nat.reduceEqDiff, Nat.reduceBEq, Nat.reduceLeDiff, Int.reduceToNat, fillS, wantG, vBox, Value.cells, one, putAt]
      · rintro S τ3 ⟨s0, s1, s11, ⟨g', hV3⟩, hX⟩
        simp only [c_seq, RUNA, RUNB, Nat.reduceAdd, Nat.reduceMod, Nat.reduceDiv, Nat.reduceSub, Nat.reduceMul, Nat.reduceEqDiff, Nat.reduceBEq, Nat.reduceLeDiff, Int.reduceToNat, fillS, wantG, vBox, Value.cells, one, putAt, TYA, s0, s1, s11, k1 τ3 hV3.kp]
        refine update_ex keyI Try.underlying71 hV3.mp ?_ (k := (k : Int)) rfl ?_
        · rfl
        intro es' hM
        simp only [c_seq, RUNA, RUNB, Nat.reduceAdd, Nat.reduceMod, Nat.reduceDiv, Nat.reduceSub, Nat.reduceMul, Nat.reduceEqDiff, Nat.reduceBEq, Nat.reduceLeDiff, Int.reduceToNat, fillS, wantG, vBox, Value.cells, one, putAt, TYA, s0, s1, s11, hr]
        refine ⟨rfl, ⟨_, ((hV3.mono ?_).upd hM (fun A hA => by rw [Rep.fn hA hRR])).mono ?_⟩, ?_⟩
        · repeat first | assumption | exact EXn.refl _ _ | refine EXn.more ?_ _ | refine EXn.put ?_ (by omega) _ | refine EX.trans ?_ (by assumption)
        · repeat first | assumption | exact EXn.refl _ _ | refine EXn.more ?_ _ | refine EXn.put ?_ (by omega) _ | refine EX.trans ?_ (by assumption)
        · exact ((hX.more 4).put (Or.inr rfl) _).more 2
end Go.Proofs.Ytlealdhgajomhaa
namespace Go.Proofs.Ytlealdhgajomhaa
open Go.AI
set_option linter.unusedVariables false
set_option linter.unusedSimpArgs false

set_option maxHeartbeats 2000000 in
theorem Count_spec {σ : St} {a : Value} {φ : As → Bool} (n : Int) (ha : IsD 0 σ.next σ a φ) (hF : Fr σ) :
    wpc Try.prog 42 #[a, .int .i64 n] σ fun r σ' => r = .int .i64 (cn (bnd n) φ : Nat) ∧ EX σ σ' := by
  obtain ⟨A, hA, oA, eA⟩ := ha
  obtain ⟨gA, rA⟩ := cd_gd oA
  obtain ⟨ia, fa, ca, rowa, ma, rfl, -, la, wa, ta⟩ := hA.row oA
  have hN := bnd_le n
  refine body_go Try.func42 rfl ?_
  have hr := Try.results42
  simp only [c_seq, RUNA, RUNB, Nat.reduceAdd, Nat.reduceMod, Nat.reduceDiv, Nat.reduceSub, Nat.reduceMul, Nat.reduceEqDiff, Nat.reduceBEq, Nat.reduceLeDiff, Int.reduceToNat, fillS, wantG, vBox, Value.cells, one, putAt, TYA, hr]
  refine wpc_mono (safe_spec (hA.un ?_) (by first | omega | (simp only [next_more, next_put] at *; omega)) oA (by repeat first | assumption | refine Fr.more ?_ _ | refine Fr.put ?_ _ _)) ?_
  · repeat first | assumption | exact UN.refl _ _ _ | refine UN.more ?_ _ | refine UN.put ?_ (by omega) _ | refine UN.ex (by assumption) ?_ (by first | omega | (simp only [next_more, next_put]; omega)) | refine UN.exb (by assumption) ?_ (by first | omega | (simp only [next_more, next_put]; omega)) (by omega)
  rintro r σ1 ⟨rfl, hE1⟩
  have n1 := hE1.next
  simp only [next_more, next_put] at n1
  obtain ⟨xa, hxa⟩ : ∃ q : Nat, (cd A).2 = q := ⟨_, (Int.toNat_of_nonneg (Rep.lt gA.len rA).1).symm⟩
  rw [hxa] at rA
  have a1 : σ1.row σ.next = some ([.slice (some ⟨ia, fa, none⟩) (cd A).1.length ca, .int .i64 (cd A).2], boxMeta) := by rw [hE1.row _ (by first | omega | (simp only [next_more, next_put] at *; omega))]; simp only [c_seq, RUNA, RUNB, Nat.reduceAdd, Nat.reduceMod, Nat.reduceDiv, Nat.reduceSub, Nat.reduceMul, Nat.reduceEqDiff, Nat.reduceBEq, Nat.reduceLeDiff, Int.reduceToNat, fillS, wantG, vBox, Value.cells, one, putAt]
  have i1 : σ1.row (σ.next + 1) = some ([.int .i64 n], boxMeta) := by rw [hE1.row _ (by first | omega | (simp only [next_more, next_put] at *; omega))]; simp only [c_seq, RUNA, RUNB, Nat.reduceAdd, Nat.reduceMod, Nat.reduceDiv, Nat.reduceSub, Nat.reduceMul, Nat.reduceEqDiff, Nat.reduceBEq, Nat.reduceLeDiff, Int.reduceToNat, fillS, wantG, vBox, Value.cells, one, putAt]
  have e1 : EX σ σ1 := by repeat first | assumption | exact EXn.refl _ _ | refine EXn.more ?_ _ | refine EXn.put ?_ (by omega) _ | refine EX.trans ?_ (by assumption)
  have f1 := e1.fr hF
  have q0 : ¬ σ.next + 1 = σ.next := by omega
  simp only [c_seq, RUNA, RUNB, Nat.reduceAdd, Nat.reduceMod, Nat.reduceDiv, Nat.reduceSub, Nat.reduceMul, Nat.reduceEqDiff, Nat.reduceBEq, Nat.reduceLeDiff, Int.reduceToNat, fillS, wantG, vBox, Value.cells, one, putAt, TYA, a1, hxa, i1, q0]
  refine wpc_mono (bound_spec n _) ?_
  rintro r σ2 ⟨rfl, hE2⟩
  have n2 := hE2.next
  simp only [next_more, next_put] at n2
  obtain ⟨N, hNe⟩ : ∃ N, N = bnd n := ⟨_, rfl⟩
  rw [← hNe] at hN ⊢
  have a2 : σ2.row σ.next = some ([.slice (some ⟨ia, fa, none⟩) (cd A).1.length ca, .int .i64 xa], boxMeta) := by rw [hE2.row _ (by first | omega | (simp only [next_more, next_put] at *; omega))]; simp only [c_seq, RUNA, RUNB, Nat.reduceAdd, Nat.reduceMod, Nat.reduceDiv, Nat.reduceSub, Nat.reduceMul, Nat.reduceEqDiff, Nat.reduceBEq, Nat.reduceLeDiff, Int.reduceToNat, fillS, wantG, vBox, Value.cells, one, putAt]
  have i2 : σ2.row (σ.next + 1) = some ([.int .i64 n], boxMeta) := by rw [hE2.row _ (by first | omega | (simp only [next_more, next_put] at *; omega))]; simp only [c_seq, RUNA, RUNB, Nat.reduceAdd, Nat.reduceMod, Nat.reduceDiv, Nat.reduceSub, Nat.reduceMul, Nat.reduceEqDiff, Nat.reduceBEq, Nat.reduceLeDiff, Int.reduceToNat, fillS, wantG, vBox, Value.cells, one, putAt, q0, i1]
  have e2 : EX σ σ2 := by repeat first | assumption | exact EXn.refl _ _ | refine EXn.more ?_ _ | refine EXn.put ?_ (by omega) _ | refine EX.trans ?_ (by assumption)
  have f2 := e2.fr hF
  simp only [c_seq, RUNA, RUNB, Nat.reduceAdd, Nat.reduceMod, Nat.reduceDiv, Nat.reduceSub, Nat.reduceMul, Nat.reduceEqDiff, Nat.reduceBEq, Nat.reduceLeDiff, Int.reduceToNat, fillS, wantG, vBox, Value.cells, one, putAt, TYA, i2]
  refine update_ex keyI Try.underlying71 (MP.new ?_) rfl (k := 0) rfl ?_
  · rw [St.get_put, if_pos rfl]
  intro es1 hM1
  simp only [c_seq, RUNA, RUNB, Nat.reduceAdd, Nat.reduceMod, Nat.reduceDiv, Nat.reduceSub, Nat.reduceMul, Nat.reduceEqDiff, Nat.reduceBEq, Nat.reduceLeDiff, Int.reduceToNat, fillS, wantG, vBox, Value.cells, one, putAt, TYA]
  refine update_ex keyI Try.underlying71 hM1 rfl (k := 1) rfl ?_
  intro es2 hM2
  simp only [c_seq, RUNA, RUNB, Nat.reduceAdd, Nat.reduceMod, Nat.reduceDiv, Nat.reduceSub, Nat.reduceMul, Nat.reduceEqDiff, Nat.reduceBEq, Nat.reduceLeDiff, Int.reduceToNat, fillS, wantG, vBox, Value.cells, one, putAt, TYA]
  obtain ⟨H, hH⟩ : ∃ H : List (Nat × (List Value × Mta)), H = [(σ2.next + 7, ([.map (some (σ2.next + 3))], boxMeta)), (σ.next, ([.slice (some ⟨ia, fa, none⟩) (cd A).1.length ca, .int .i64 xa], boxMeta)), (σ.next + 1, ([.int .i64 (N : Nat)], boxMeta)),
    (σ2.next + 9, ([.func (.func 58) #[] #[.pointer (some ⟨σ2.next + 7, 0, none⟩), .pointer (some ⟨σ.next, 0, none⟩), .pointer (some ⟨σ.next + 1, 0, none⟩), .pointer (some ⟨σ2.next + 9, 0, none⟩), .pointer (some ⟨σ2.next + 1, 0, none⟩)]], boxMeta)), (σ2.next + 1, ([.func (.func 56) #[] #[.pointer (some ⟨σ.next, 0, none⟩), .pointer (some ⟨σ.next + 1, 0, none⟩)]], boxMeta)), (ia, (rowa, m3 ma))] := ⟨_, rfl⟩
  have hsk : ∀ p ∈ H, p.1 ≠ σ2.next + 3 := by
    intro p hp
    rw [hH] at hp
    simp only [List.mem_cons, List.not_mem_nil, or_false] at hp
    rcases hp with rfl | rfl | rfl | rfl | rfl | rfl <;> (simp only; omega)
  refine gen_go (fun S τ => S.at 2 = .pointer (some ⟨σ.next, 0, none⟩) ∧ S.at 5 = .pointer (some ⟨σ2.next + 1, 0, none⟩) ∧ S.at 7 = .pointer (some ⟨σ2.next + 9, 0, none⟩) ∧ EX σ τ ∧ σ2.next + 10 ≤ τ.next ∧ CV H (σ2.next + 3) N (cd A).1 (mset (mset (fun _ => none) 0 (.int .i64 0)) 1 (.int .i64 1)) τ) ?_ ?_
  · simp only [c_seq, RUNA, RUNB, Nat.reduceAdd, Nat.reduceMod, Nat.reduceDiv, Nat.reduceSub, Nat.reduceMul, Nat.reduceEqDiff, Nat.reduceBEq, Nat.reduceLeDiff, Int.reduceToNat, fillS, wantG, vBox, Value.cells, one, putAt]
    refine ⟨?_, by omega, ⟨by repeat first | assumption | refine Fr.more ?_ _ | refine Fr.put ?_ _ _, ?_, hM2.of (by simp only [c_seq, RUNA, RUNB, Nat.reduceAdd, Nat.reduceMod, Nat.reduceDiv, Nat.reduceSub, Nat.reduceMul, Nat.reduceEqDiff, Nat.reduceBEq, Nat.reduceLeDiff, Int.reduceToNat, fillS, wantG, vBox, Value.cells, one, putAt]), by first | omega | (simp only [next_more, next_put] at *; omega), hsk, fun k v h B hB => ?_, fun k h => ?_⟩⟩
    · repeat first | assumption | exact EXn.refl _ _ | refine EXn.more ?_ _ | refine EXn.put ?_ (by omega) _ | refine EX.trans ?_ (by assumption)
    · intro p hp
      rw [hH] at hp
      simp only [List.mem_cons, List.not_mem_nil, or_false] at hp
      have w1 : ¬ σ.next + 1 = σ2.next + 1 := by omega
      have w2 : ¬ σ.next + 1 = σ2.next + 3 := by omega
      have w3 : ¬ σ.next + 1 = σ2.next + 7 := by omega
      have w4 : ¬ σ.next + 1 = σ2.next + 9 := by omega
      have v0 : ¬ σ.next = σ2.next := by omega
      have v2 : ¬ σ.next = σ2.next + 2 := by omega
      have v6 : ¬ σ.next = σ2.next + 6 := by omega
      have v8 : ¬ σ.next = σ2.next + 8 := by omega
      rcases hp with rfl | rfl | rfl | rfl | rfl | rfl
      · exact ⟨by first | omega | (simp only [next_more, next_put] at *; omega), by simp only [c_seq, RUNA, RUNB, Nat.reduceAdd, Nat.reduceMod, Nat.reduceDiv, Nat.reduceSub, Nat.reduceMul, Nat.reduceEqDiff, Nat.reduceBEq, Nat.reduceLeDiff, Int.reduceToNat, fillS, wantG, vBox, Value.cells, one, putAt]⟩
      · exact ⟨by first | omega | (simp only [next_more, next_put] at *; omega), by rw [EXn.row (n := σ.next + 1) (σ := σ2) (by repeat first | assumption | exact EXn.refl _ _ | refine EXn.more ?_ _ | refine EXn.put ?_ (by omega) _ | refine EX.trans ?_ (by assumption)) _ (by simp only; omega)]; exact a2⟩
      · exact ⟨by first | omega | (simp only [next_more, next_put] at *; omega), by simp only [c_seq, RUNA, RUNB, Nat.reduceAdd, Nat.reduceMod, Nat.reduceDiv, Nat.reduceSub, Nat.reduceMul, Nat.reduceEqDiff, Nat.reduceBEq, Nat.reduceLeDiff, Int.reduceToNat, fillS, wantG, vBox, Value.cells, one, putAt, v0, v2, v6, v8]⟩
      · exact ⟨by first | omega | (simp only [next_more, next_put] at *; omega), by simp only [c_seq, RUNA, RUNB, Nat.reduceAdd, Nat.reduceMod, Nat.reduceDiv, Nat.reduceSub, Nat.reduceMul, Nat.reduceEqDiff, Nat.reduceBEq, Nat.reduceLeDiff, Int.reduceToNat, fillS, wantG, vBox, Value.cells, one, putAt]⟩
      · exact ⟨by first | omega | (simp only [next_more, next_put] at *; omega), by simp only [c_seq, RUNA, RUNB, Nat.reduceAdd, Nat.reduceMod, Nat.reduceDiv, Nat.reduceSub, Nat.reduceMul, Nat.reduceEqDiff, Nat.reduceBEq, Nat.reduceLeDiff, Int.reduceToNat, fillS, wantG, vBox, Value.cells, one, putAt]⟩
      · exact ⟨by first | omega | (simp only [next_more, next_put] at *; omega), by rw [EXn.row (n := σ.next + 1) (σ := σ2) (by repeat first | assumption | exact EXn.refl _ _ | refine EXn.more ?_ _ | refine EXn.put ?_ (by omega) _ | refine EX.trans ?_ (by assumption)) _ (by simp only; omega), e2.row _ la]; exact wa⟩
    · unfold mset at h
      split at h
      · rename_i e; subst e; cases h
        have : B = .leaf true := Rep.fn hB rfl
        subst this; rfl
      · split at h
        · rename_i e; subst e; cases h
          have : B = .leaf false := Rep.fn hB rfl
          subst this; rfl
        · cases h
    · simp only [List.mem_cons, List.not_mem_nil, or_false] at h
      rcases h with rfl | rfl
      · exact ⟨.int .i64 0, rfl⟩
      · exact ⟨.int .i64 1, rfl⟩
  rintro S τ ⟨s2, s5, s7, hE, hn, hV⟩
  have nn := hE.next
  have hk := hV.kp
  have k1 : ∀ τ, Keep τ H → τ.row (σ2.next + 7) = some ([.map (some (σ2.next + 3))], boxMeta) := fun τ h => (h (_, _) (by rw [hH]; exact (.head _))).2
  have k2 : ∀ τ, Keep τ H → (τ.row σ.next = some ([.slice (some ⟨ia, fa, none⟩) (cd A).1.length ca, .int .i64 xa], boxMeta) ∧ σ.next < τ.next) ∧ DV τ (.agg #[.slice (some ⟨ia, fa, none⟩) (cd A).1.length ca, .int .i64 xa]) ((cd A).1, (xa : Int)) := fun τ h => ⟨⟨(h (_, _) (by rw [hH]; exact (.tail _ (.head _)))).2, (h (_, _) (by rw [hH]; exact (.tail _ (.head _)))).1⟩, dv_row (h (_, _) (by rw [hH]; exact (.tail _ (.tail _ (.tail _ (.tail _ (.tail _ (.head _)))))))).1 (h (_, _) (by rw [hH]; exact (.tail _ (.tail _ (.tail _ (.tail _ (.tail _ (.head _)))))))).2 ta⟩
  have k3 : ∀ τ, Keep τ H → τ.row (σ.next + 1) = some ([.int .i64 (N : Nat)], boxMeta) ∧ σ.next + 1 < τ.next := fun τ h => ⟨(h (_, _) (by rw [hH]; exact (.tail _ (.tail _ (.head _))))).2, (h (_, _) (by rw [hH]; exact (.tail _ (.tail _ (.head _))))).1⟩
  have k4 : ∀ τ, Keep τ H → τ.row (σ2.next + 9) = some ([.func (.func 58) #[] #[.pointer (some ⟨σ2.next + 7, 0, none⟩), .pointer (some ⟨σ.next, 0, none⟩), .pointer (some ⟨σ.next + 1, 0, none⟩), .pointer (some ⟨σ2.next + 9, 0, none⟩), .pointer (some ⟨σ2.next + 1, 0, none⟩)]], boxMeta) := fun τ h => (h (_, _) (by rw [hH]; exact (.tail _ (.tail _ (.tail _ (.head _)))))).2
  have k5 : ∀ τ, Keep τ H → τ.row (σ2.next + 1) = some ([.func (.func 56) #[] #[.pointer (some ⟨σ.next, 0, none⟩), .pointer (some ⟨σ.next + 1, 0, none⟩)]], boxMeta) := fun τ h => (h (_, _) (by rw [hH]; exact (.tail _ (.tail _ (.tail _ (.tail _ (.head _))))))).2
  have hxl : xa < (cd A).1.length := by have := Rep.lt gA.len rA; omega
  have hcl := cntT_le (n := N) oA
  have h2N : 2 ^ N ≤ 2 ^ 10 := Nat.pow_le_pow_right (by decide) hN
  have ll := lvT_le N A
  have hsh := shlc (c := cntT N A) (e := lvT N A) (by omega) (by omega)
  have y1 : (0 : Int) ≤ ((lvT N A : Nat) : Int) := Int.natCast_nonneg _
  refine d_go (ms := [0, 0, 2, 7, 0, 0, 32, 127, 255, 511]) (order := [0, 1, 2, 4, 5, 6, 3, 7, 8, 9]) (by kernel_rfl) (by kernel_rfl) (by kernel_rfl) ?_
  simp only [YRUNA, YRUNB, Nat.reduceShiftRight, bit, c_seq, RUNA, RUNB, Nat.reduceAdd, Nat.reduceMod, Nat.reduceDiv, Nat.reduceSub, Nat.reduceMul, Nat.reduceEqDiff, Nat.reduceBEq, Nat.reduceLeDiff, Int.reduceToNat, fillS, wantG, vBox, Value.cells, one, putAt, TYA, s2, s5, s7, (k2 τ hk).1.1, k4 τ hk, k5 τ hk]
  refine wpc_mono (cvisit H (σ2.next + 7) σ.next (σ.next + 1) (σ2.next + 9) (σ2.next + 1) (σ2.next + 3) N hN (cd A).1 xa _ ca gA k1 k2 k3 k4 k5 A xa 0 _ _ rA oA (hV.mono ?_)) ?_
  · repeat first | assumption | exact EXn.refl _ _ | refine EXn.more ?_ _ | refine EXn.put ?_ (by omega) _ | refine EX.trans ?_ (by assumption)
  rintro r σ3 ⟨rfl, ⟨g3, hV3⟩, hX3⟩
  have hk3 := hV3.kp
  have nx3 := hX3.next
  simp only [next_more] at nx3
  have ex3 : EX σ σ3 := by
    have hz : EXb (σ2.next + 3) σ σ3 := (EXb.of (by repeat first | assumption | exact EXn.refl _ _ | refine EXn.more ?_ _ | refine EXn.put ?_ (by omega) _ | refine EX.trans ?_ (by assumption))).trans hX3
    exact ⟨hz.next, fun id hi => hz.get id hi (by omega), fun id hi => hz.row id hi (by omega), hz.fr, hz.ver⟩
  simp only [YRUNA, YRUNB, Nat.reduceShiftRight, bit, c_seq, RUNA, RUNB, Nat.reduceAdd, Nat.reduceMod, Nat.reduceDiv, Nat.reduceSub, Nat.reduceMul, Nat.reduceEqDiff, Nat.reduceBEq, Nat.reduceLeDiff, Int.reduceToNat, fillS, wantG, vBox, Value.cells, one, putAt, TYA, s2, s5, s7, (k2 σ3 hk3).1.1, k4 σ3 hk3, k5 σ3 hk3]
  refine wpc_mono (at_spec gA hxl (k2 σ3 hk3).1.1 (k3 σ3 hk3).1 (k2 σ3 hk3).1.2 (k3 σ3 hk3).2 (k2 σ3 hk3).2) ?_
  rintro r σ4 ⟨rfl, hE4⟩
  rw [lvT_lvl rA hN]
  have hk4 := hk3.mono hE4
  have ex4 : EX σ σ4 := EX.trans ex3 hE4
  simp only [YRUNA, YRUNB, Nat.reduceShiftRight, bit, c_seq, RUNA, RUNB, Nat.reduceAdd, Nat.reduceMod, Nat.reduceDiv, Nat.reduceSub, Nat.reduceMul, Nat.reduceEqDiff, Nat.reduceBEq, Nat.reduceLeDiff, Int.reduceToNat, fillS, wantG, vBox, Value.cells, one, putAt, TYA, s2, s5, s7, (k2 σ4 hk4).1.1, k4 σ4 hk4, k5 σ4 hk4, n_shl y1, hsh, hr]
  refine ⟨?_, ?_⟩
  · have : A.ev = φ := funext eA
    rw [← this, cn_cntT N A 0 oA]
  · repeat first | assumption | exact EXn.refl _ _ | refine EXn.more ?_ _ | refine EXn.put ?_ (by omega) _ | refine EX.trans ?_ (by assumption)
end Go.Proofs.Ytlealdhgajomhaa
