import Derived.Test.YtmjddjjcnhckgaaGreatDoorKt
import Derived.Laws.StructEq
import Derived.Test.YtmjddjjcnhckgaaGreatDoorKs
set_option linter.unusedVariables false
set_option linter.unusedSimpArgs false
set_option linter.constructorNameAsVariable false
open Nat renaming reduceAdd → zAd, reduceMod → zMo, reduceDiv → zDi, reduceSub → zSu, reduceMul → zMu, reduceEqDiff → zEq, reduceBEq → zBe, reduceLeDiff → zLe, reduceShiftRight → zSh
open Int renaming reduceToNat → zTo
namespace Go.Proofs.Q
open Go.AI
set_option maxRecDepth 20000
def Keep (σ : St) (H : List (Nat × (List Value × Mta))) : Prop := ∀ p ∈ H, p.1 < σ.next ∧ σ.row p.1 = some p.2
theorem Keep.exf {X : Nat → Prop} {σ τ : St} {H : List (Nat × (List Value × Mta))} (h : Keep σ H) (e : EXF X σ τ) (hx : ∀ p ∈ H, ¬ X p.1) : Keep τ H :=
 fun p hp => ⟨Nat.lt_of_lt_of_le (h p hp).1 e.next, (e.row p.1 (h p hp).1 (hx p hp)).trans (h p hp).2⟩
theorem Keep.mono {σ τ : St} {H : List (Nat × (List Value × Mta))} (h : Keep σ H) (e : EX σ τ) : Keep τ H :=
 fun p hp => ⟨Nat.lt_of_lt_of_le (h p hp).1 e.next, (e.row p.1 (h p hp).1).trans (h p hp).2⟩
def tX4 (b mid dm s : Nat) : Nat → Prop := fun id => id = b ∨ id = mid ∨ id = dm ∨ id = s
section
variable {κ : Type} [DecidableEq κ] {enc : κ → Value}
structure IV (H : List (Nat × (List Value × Mta))) (b mid dm : Nat) (enc : κ → Value) (pre : List κ) (R : κ → Int → List Vtx → Prop) (s : Nat) (l : List Vtx) (g : κ → Option Value) (σ : St) : Prop where
 fr : Fr σ
 kp : Keep σ H
 tb : TBL b mid s σ l
 mp : MP enc σ dm g
 lt : dm < σ.next
 ne : dm ≠ b ∧ dm ≠ mid ∧ dm ≠ s
 ks : ∀ p ∈ H, p.1 ≠ b ∧ p.1 ≠ mid ∧ p.1 ≠ dm ∧ p.1 ≠ s
 inv : ∀ k v, g k = some v → ∃ n, v = .int .i64 n ∧ R k n l
 pr : ∀ k ∈ pre, ∃ v, g k = some v
variable {H : List (Nat × (List Value × Mta))} {b mid dm : Nat} {pre : List κ} {R : κ → Int → List Vtx → Prop} {s : Nat} {l : List Vtx} {g : κ → Option Value} {σ τ : St}
theorem IV.mono (h : IV H b mid dm enc pre R s l g σ) (e : EX σ τ) : IV H b mid dm enc pre R s l g τ :=
 ⟨e.fr h.fr, h.kp.mono e, h.tb.mono e, h.mp.of (e.get dm h.lt), Nat.lt_of_lt_of_le h.lt e.next, h.ne, h.ks, h.inv, h.pr⟩
theorem IV.tab (hR : ∀ k n l q, R k n l → R k n (l ++ q)) (h : IV H b mid dm enc pre R s l g σ) {l' : List Vtx} {s' : Nat} (ht : TBL b mid s' τ l') (hq : ∃ q, l' = l ++ q) (hs : s' = s ∨ (σ.next ≤ s' ∧ s' < τ.next)) (e : EXF (tX b mid s) σ τ) (hF : Fr τ) : IV H b mid dm enc pre R s' l' g τ := by
 obtain ⟨q, rfl⟩ := hq
 have hd : ¬ tX b mid s dm := fun x => by
  rcases x with x | x | x
  ·exact h.ne.1 x
  ·exact h.ne.2.1 x
  ·exact h.ne.2.2 x
 have hh : ∀ p ∈ H, ¬ tX b mid s p.1 := fun p hp x => by
  have := h.ks p hp
  rcases x with x | x | x
  ·exact this.1 x
  ·exact this.2.1 x
  ·exact this.2.2.2 x
 refine ⟨hF, h.kp.exf e hh, ht, h.mp.of (e.get dm h.lt hd), Nat.lt_of_lt_of_le h.lt e.next, ⟨h.ne.1, h.ne.2.1, ?_⟩, fun p hp => ⟨(h.ks p hp).1, (h.ks p hp).2.1, (h.ks p hp).2.2.1, ?_⟩, fun k v hk => ?_, h.pr⟩
 ·rcases hs with hs | hs
  ·rw [hs]; exact h.ne.2.2
  ·have := h.lt; omega
 ·rcases hs with hs | hs
  ·rw [hs]; exact (h.ks p hp).2.2.2
  ·have := (h.kp p hp).1; omega
 ·obtain ⟨n, h1, h2⟩ := h.inv k v hk
  exact ⟨n, h1, hR k n l q h2⟩
theorem IV.upd (h : IV H b mid dm enc pre R s l g σ) {es' : List (Value × Value)} {k : κ} {n : Int} (hm : MP enc (σ.put dm (.map es')) dm (mset g k (.int .i64 n))) (hr : R k n l) : IV H b mid dm enc pre R s l (mset g k (.int .i64 n)) (σ.put dm (.map es')) := by
 obtain ⟨⟨sv, t1, t2⟩, t3, t4, t5, t6⟩ := h.tb
 refine ⟨h.fr, fun p hp => ⟨(h.kp p hp).1, (row_put_ne (h.ks p hp).2.2.1).trans (h.kp p hp).2⟩, ⟨⟨sv, (row_put_ne h.ne.1.symm).trans t1, t2.mono (Nat.le_refl _) (row_put_ne h.ne.2.2.symm)⟩, t3.of (by rw [St.get_put, if_neg h.ne.2.1.symm]), t4, t5, t6⟩, hm, h.lt, h.ne, h.ks, fun k' v hk => ?_, fun k' hk => ?_⟩
 ·unfold mset at hk
  split at hk
  ·rename_i e; cases hk; subst e; exact ⟨n, rfl, hr⟩
  ·exact h.inv k' v hk
 ·unfold mset
  split
  ·exact ⟨_, rfl⟩
  ·exact h.pr k' hk
theorem tX4.of {id : Nat} (h : tX b mid s id) : tX4 b mid dm s id := by
 rcases h with h | h | h
 ·exact Or.inl h
 ·exact Or.inr (Or.inl h)
 ·exact Or.inr (Or.inr (Or.inr h))
theorem EXF.two {s' : Nat} {υ : St} (h : EXF (tX4 b mid dm s) σ τ) (hs : s' = s ∨ σ.next ≤ s') (k : EXF (tX4 b mid dm s') τ υ) : EXF (tX4 b mid dm s) σ υ := by
 refine h.comp (fun id hi x => ?_) k
 rcases x with x | x | x | x
 ·exact Or.inl x
 ·exact Or.inr (Or.inl x)
 ·exact Or.inr (Or.inr (Or.inl x))
 ·rcases hs with hs | hs
  ·exact Or.inr (Or.inr (Or.inr (x.trans hs)))
  ·omega
theorem EXF.wide (h : EXF (tX b mid s) σ τ) : EXF (tX4 b mid dm s) σ τ := EXF.comp (EXF.refl _ σ) (fun _ _ x => tX4.of x) h
theorem EXF.keep (h : EXF (tX4 b mid dm s) σ τ) {id : Nat} (hi : id < σ.next) (hb : id ≠ b ∧ id ≠ mid ∧ id ≠ dm ∧ id ≠ s) : τ.row id = σ.row id :=
 h.row id hi (fun x => by
  rcases x with x | x | x | x
  ·exact hb.1 x
  ·exact hb.2.1 x
  ·exact hb.2.2.1 x
  ·exact hb.2.2.2 x)
def IOut (H : List (Nat × (List Value × Mta))) (b mid dm : Nat) (enc : κ → Value) (pre : List κ) (R : κ → Int → List Vtx → Prop) (s : Nat) (l : List Vtx) (k : κ) (lv : Nat) (σ : St) (r : Value) (σ' : St) : Prop :=
 ∃ (n : Int) (l' : List Vtx) (s' : Nat) (g' : κ → Option Value), r = .int .i64 n ∧ IV H b mid dm enc pre R s' l' g' σ' ∧ (∃ q, l' = l ++ q) ∧ l'.length + 1 ≤ l.length + 2 ^ (10 - lv) ∧ R k n l' ∧ (s' = s ∨ (σ.next ≤ s' ∧ s' < σ'.next)) ∧ EXF (tX4 b mid dm s) σ σ'
theorem pow_pos' (lv : Nat) : 1 ≤ 2 ^ (10 - lv) := Nat.two_pow_pos _
end
theorem Rep.lvl_le {l : List Vtx} {A : Dt} {i m : Nat} (h : Rep l A i) (ho : A.ok m) (hm : m ≤ 10) : m ≤ lvl l i := by
 cases A with
 | leaf c =>
  have : i < 2 := by simp only [Rep] at h; split at h <;> omega
  simp only [lvl, this, if_true]; exact hm
 | node v lo hi =>
  obtain ⟨k, h1, h2, h3, h4, _⟩ := h
  obtain rfl : i = k := by omega
  have h5 : ¬ i < 2 := by omega
  simp only [lvl, h5, if_false, h4, Int.toNat_natCast]
  exact ho.1
theorem Rep.ok_lvl {l : List Vtx} (g : Gd l) {A : Dt} {i : Nat} (h : Rep l A i) : A.ok (lvl l i) ∧ i < l.length := by
 have := Rep.lt g.len h
 obtain ⟨B, hB, ho⟩ := Rep.ex g i (by omega)
 have e := Rep.fn hB h
 subst e
 exact ⟨ho, by omega⟩
end Go.Proofs.Q
namespace Go.Proofs.Q
open Go.AI
theorem eqA (a b c a' b' c' : Int) : still Tryz.prog (Op.equal 110 (.agg #[.int .i64 a, .int .i64 b, .int .i64 c]) (.agg #[.int .i64 a', .int .i64 b', .int .i64 c'])) = some (veq a b c a' b' c') := by
 have hs : still Tryz.prog (sizeOf 3) = some 1 := by kernel_rfl
 unfold Op.equal veq
 rw [show Op.maxDepth = 9998 + 1 + 1 from rfl, Op.equalIn.eq_2, still_bind, still_underlying, Tryz.underlying110]
 simp only [Option.bind_some]
 rw [still_bind, hs]
 simp only [Option.bind_some]
 simp only [Std.Legacy.Range.forIn_eq_forIn_range', Std.Legacy.Range.size, Nat.sub_zero, Nat.add_one_sub_one, Nat.div_one, List.range', List.forIn_cons, List.forIn_nil, still_bind]
 by_cases h1 : a = a' <;> by_cases h2 : b = b' <;> by_cases h3 : c = c' <;> simp [pt0, pt1, pt2, still_eq_int Tryz.underlying3, still_bind, still_pure, h1, h2, h3]
theorem eqlA {x y : Operand} (a b c a' b' c' : Int) : abin Tryz.prog .eql 110 x y (.agg #[.int .i64 a, .int .i64 b, .int .i64 c]) (.agg #[.int .i64 a', .int .i64 b', .int .i64 c']) = some (.bool (veq a b c a' b' c')) :=
 abin_eql rfl rfl (by kernel_rfl) (eqA a b c a' b' c')
theorem ckA (b : Bool) (x y z : Int) : still Tryz.prog (Instr.checkKey b 10000 110 (.agg #[.int .i64 x, .int .i64 y, .int .i64 z])) = some () := by kernel_rfl
theorem keyA : Keyed Tryz.prog 110 enc3 := by
 refine ⟨fun k => rfl, fun b k => ckA b _ _ _, Or.inr ⟨_, Tryz.underlying110, fun a b => rfl, fun a b => ?_⟩, fun k => ?_⟩
 ·exact eqA _ _ _ _ _ _
 ·simp [enc3, Instr.sameBits]
theorem bdA (a b c : Int) : abuild Tryz.prog 110 #[(0, .int .i64 a), (1, .int .i64 b), (2, .int .i64 c)] = some (.agg #[.int .i64 a, .int .i64 b, .int .i64 c]) := by kernel_rfl
theorem bdA0 : abuild Tryz.prog 110 #[] = some (.agg #[.int .i64 0, .int .i64 0, .int .i64 0]) := by kernel_rfl
def amin3 (P : Program) (a b c : Value) : Option Value := bif [a, b, c].all plain0 then stillP P ([b, c].foldlM Builtin.min2 a) else none
theorem k_min3 {P : Program} {ρ : Operand → Value} {o : Oper} {a b c : Operand} {ts : Array TypeId} : acallPure P ρ o ⟨.builtin .min, #[a, b, c], ts⟩ = amin3 P (ρ a) (ρ b) (ρ c) := by
 unfold acallPure amin3; simp [Builtin.min_]
theorem min3_i {P : Program} {x y z : Nat} : amin3 P (.int .i64 (x : Int)) (.int .i64 (y : Int)) (.int .i64 (z : Int)) = some (.int .i64 ((min (min x y) z : Nat) : Int)) := by
 have : amin3 P (.int .i64 (x : Int)) (.int .i64 (y : Int)) (.int .i64 (z : Int)) = some (.int .i64 (if (z : Int) < (if (y : Int) < (x : Int) then (y : Int) else (x : Int)) then (z : Int) else (if (y : Int) < (x : Int) then (y : Int) else (x : Int)))) := rfl
 rw [this]
 congr 2
 split <;> split <;> omega
def iR (la lb lc : List Vtx) : Vtx → Int → List Vtx → Prop := fun k n l => ∀ A B C, Rep la A k.1 → Rep lb B k.2.1 → Rep lc C k.2.2 → ∃ T, Rep l T n ∧ (∀ m, m ≤ 10 → A.ok m → B.ok m → C.ok m → T.ok m) ∧ ∀ f, T.ev f = if A.ev f = true then B.ev f else C.ev f
theorem iR.mono {la lb lc : List Vtx} (k : Vtx) (n : Int) (l q : List Vtx) (h : iR la lb lc k n l) : iR la lb lc k n (l ++ q) := by
 intro A B C h1 h2 h3
 obtain ⟨T, t1, t2⟩ := h A B C h1 h2 h3
 exact ⟨T, t1.mono, t2⟩
theorem iR.zero {la lb lc : List Vtx} (l : List Vtx) : iR la lb lc (0, 0, 0) 0 l := by
 intro A B C h1 h2 h3
 have e1 := Rep.leaf_at (i := 0) h1 (by omega)
 have e3 := Rep.leaf_at (i := 0) h3 (by omega)
 subst e1; subst e3
 exact ⟨.leaf false, rfl, fun _ _ _ _ _ => trivial, fun f => by simp [Dt.ev]⟩
theorem iR.leaf {la lb lc : List Vtx} {x y z : Nat} (hx : x < 2) (hy : y < 2) (hz : z < 2) (l : List Vtx) : iR la lb lc ((x : Int), (y : Int), (z : Int)) (if x = 1 then (y : Int) else (z : Int)) l := by
 intro A B C h1 h2 h3
 have e1 := Rep.leaf_at h1 hx
 have e2 := Rep.leaf_at h2 hy
 have e3 := Rep.leaf_at h3 hz
 subst e1; subst e2; subst e3
 obtain rfl | rfl : x = 0 ∨ x = 1 := by omega
 ·refine ⟨.leaf (z == 1), ?_, fun _ _ _ _ _ => trivial, fun f => by simp [Dt.ev]⟩
  obtain rfl | rfl : z = 0 ∨ z = 1 := by omega
  ·rfl
  ·rfl
 ·refine ⟨.leaf (y == 1), ?_, fun _ _ _ _ _ => trivial, fun f => by simp [Dt.ev]⟩
  obtain rfl | rfl : y = 0 ∨ y = 1 := by omega
  ·rfl
  ·rfl
theorem upd_id {f : As} {v : Nat} {x : Bool} (h : f v = x) : upd f v x = f := by
 funext i; unfold upd; split
 ·rename_i e; rw [e, h]
 ·rfl
theorem iR.step {la lb lc l : List Vtx} {x y z v : Nat} {A B C A0 B0 C0 A1 B1 C1 T0 T1 T : Dt} {n : Int} (hA : Rep la A x) (hB : Rep lb B y) (hC : Rep lc C z)
    (hv : v = min (min (lvl la x) (lvl lb y)) (lvl lc z))
    (a0 : ∀ f, A0.ev f = A.ev (upd f v false)) (b0 : ∀ f, B0.ev f = B.ev (upd f v false)) (c0 : ∀ f, C0.ev f = C.ev (upd f v false))
    (a1 : ∀ f, A1.ev f = A.ev (upd f v true)) (b1 : ∀ f, B1.ev f = B.ev (upd f v true)) (c1 : ∀ f, C1.ev f = C.ev (upd f v true))
    (t0 : ∀ f, T0.ev f = if A0.ev f = true then B0.ev f else C0.ev f) (t1 : ∀ f, T1.ev f = if A1.ev f = true then B1.ev f else C1.ev f)
    (hT : Rep l T n) (ho : T.ok v) (te : ∀ f, T.ev f = if f v = true then T1.ev f else T0.ev f) : iR la lb lc ((x : Int), (y : Int), (z : Int)) n l := by
 intro A' B' C' h1 h2 h3
 have e1 := Rep.fn hA h1
 have e2 := Rep.fn hB h2
 have e3 := Rep.fn hC h3
 subst e1; subst e2; subst e3
 refine ⟨T, hT, fun m hm o1 o2 o3 => Dt.ok_mono ho ?_, fun f => ?_⟩
 ·have := hA.lvl_le o1 hm
  have := hB.lvl_le o2 hm
  have := hC.lvl_le o3 hm
  omega
 ·rw [te, t0, t1, a0, b0, c0, a1, b1, c1]
  cases hf : f v with
  | true => rw [if_pos rfl, upd_id hf]
  | false => rw [if_neg (by simp), upd_id hf]
end Go.Proofs.Q
namespace Go.Proofs.Q
open Go.AI
def ivS (x y z : Nat) (bdn ba bb bc bv bt kb : Nat) (S : Slots) : Prop := S.at 0 = .int .i64 x ∧ S.at 1 = .int .i64 y ∧ S.at 2 = .int .i64 z ∧ S.at 3 = .pointer (some ⟨bdn, 0, none⟩) ∧ S.at 4 = .pointer (some ⟨ba, 0, none⟩) ∧ S.at 5 = .pointer (some ⟨bb, 0, none⟩) ∧ S.at 6 = .pointer (some ⟨bc, 0, none⟩) ∧ S.at 7 = .pointer (some ⟨bv, 0, none⟩) ∧ S.at 8 = .pointer (some ⟨bt, 0, none⟩) ∧ S.at 13 = .pointer (some ⟨kb, 0, none⟩)
def ivJ (H : List (Nat × (List Value × Mta))) (b mid dm : Nat) (la lb lc : List Vtx) (x y z : Nat) (bdn kb : Nat) (s : Nat) (l : List Vtx) (lv : Nat) (σ : St) (S : Slots) (τ : St) : Prop :=
 S.at 3 = .pointer (some ⟨bdn, 0, none⟩) ∧ S.at 13 = .pointer (some ⟨kb, 0, none⟩) ∧ kb < τ.next ∧ τ.row kb = some ([.int .i64 x, .int .i64 y, .int .i64 z], boxMeta) ∧
 ∃ (n : Int) (l' : List Vtx) (s' : Nat) (g' : Vtx → Option Value), S.at 17 = .int .i64 n ∧ IV H b mid dm enc3 [] (iR la lb lc) s' l' g' τ ∧ (∃ q, l' = l ++ q) ∧ l'.length + 1 ≤ l.length + 2 ^ (10 - lv) ∧ iR la lb lc ((x : Int), (y : Int), (z : Int)) n l' ∧ (s' = s ∨ (σ.next ≤ s' ∧ s' < τ.next)) ∧ EXF (tX4 b mid dm s) σ τ
theorem lvl_two {l : List Vtx} (g : Gd l) {i : Nat} (hi : i < l.length) (h : 10 ≤ lvl l i) : i < 2 := by
 by_cases h2 : i < 2
 ·exact h2
 ·have := g.var i (by omega) hi
  simp only [lvl, h2, if_false] at h; omega
set_option maxHeartbeats 4000000 in
theorem ivisit (H : List (Nat × (List Value × Mta))) (bdn ba bb bc bv bt b mid dm : Nat) (la lb lc : List Vtx) (ra rb rc : Int) (oa ob oc : Option Addr) (ka kb kc : Nat) (ga : Gd la) (gb : Gd lb) (gc : Gd lc)
    (k1 : ∀ τ, Keep τ H → τ.row bdn = some ([.map (some dm)], boxMeta))
    (k2 : ∀ τ, Keep τ H → τ.row ba = some ([.slice oa la.length ka, .int .i64 ra], boxMeta) ∧ DV τ (.agg #[.slice oa la.length ka, .int .i64 ra]) (la, ra))
    (k3 : ∀ τ, Keep τ H → τ.row bb = some ([.slice ob lb.length kb, .int .i64 rb], boxMeta) ∧ DV τ (.agg #[.slice ob lb.length kb, .int .i64 rb]) (lb, rb))
    (k4 : ∀ τ, Keep τ H → τ.row bc = some ([.slice oc lc.length kc, .int .i64 rc], boxMeta) ∧ DV τ (.agg #[.slice oc lc.length kc, .int .i64 rc]) (lc, rc))
    (k5 : ∀ τ, Keep τ H → τ.row bv = some ([.func (.func 83) #[] #[.pointer (some ⟨bdn, 0, none⟩), .pointer (some ⟨ba, 0, none⟩), .pointer (some ⟨bb, 0, none⟩), .pointer (some ⟨bc, 0, none⟩), .pointer (some ⟨bv, 0, none⟩), .pointer (some ⟨bt, 0, none⟩)]], boxMeta))
    (k6 : ∀ τ, Keep τ H → τ.row bt = some ([.pointer (some ⟨b, 0, none⟩)], boxMeta)) :
    ∀ (n lv : Nat), 10 - lv ≤ n → lv ≤ 10 → ∀ (x y z : Nat) (A B C : Dt) (σ : St) (s : Nat) (l : List Vtx) (g : Vtx → Option Value), Rep la A x → Rep lb B y → Rep lc C z → A.ok lv → B.ok lv → C.ok lv → l.length + 2 ^ (10 - lv) ≤ 5000 → IV H b mid dm enc3 [] (iR la lb lc) s l g σ →
      wpc Tryz.prog 83 #[.int .i64 x, .int .i64 y, .int .i64 z, .pointer (some ⟨bdn, 0, none⟩), .pointer (some ⟨ba, 0, none⟩), .pointer (some ⟨bb, 0, none⟩), .pointer (some ⟨bc, 0, none⟩), .pointer (some ⟨bv, 0, none⟩), .pointer (some ⟨bt, 0, none⟩)] σ (IOut H b mid dm enc3 [] (iR la lb lc) s l ((x : Int), (y : Int), (z : Int)) lv σ) := by
 intro n
 induction n using Nat.strongRecOn with
 | _ n ih =>
 intro lv hlv hlv10 x y z A B C σ s l g hA hB hC oA oB oC hsz hV
 have pw := pow_pos' lv
 refine body_go Tryz.func83 rfl ?_
 have hr := Tryz.results83
 simp only [c_seq, RUNA, RUNB, zAd, zMo, zDi, zSu, zMu, zEq, zBe, zLe, zTo, fillS, wantG, vBox, Value.cells, one, putAt, TYA, hr, bdA, bdA0, eqlA]
 refine cnd_go (fun hz => ?_) (fun hz => ?_)
 ·simp only [c_seq, RUNA, RUNB, zAd, zMo, zDi, zSu, zMu, zEq, zBe, zLe, zTo, fillS, wantG, vBox, Value.cells, one, putAt, TYA, hr]
  have hz' : ((x : Int), (y : Int), (z : Int)) = (0, 0, 0) := by simpa [veq] using hz
  refine ⟨0, l, s, g, rfl, hV.mono ?_, ⟨[], by simp⟩, by omega, by rw [hz']; exact iR.zero l, Or.inl rfl, EXF.of ?_⟩
  ·repeat first | assumption | exact EXn.refl _ _ | refine EXn.more ?_ _ | refine EXn.put ?_ (by omega) _ | refine EX.trans ?_ (by assumption)
  ·repeat first | assumption | exact EXn.refl _ _ | refine EXn.more ?_ _ | refine EXn.put ?_ (by omega) _ | refine EX.trans ?_ (by assumption)
 refine gen_go (fun S τ => ivS x y z bdn ba bb bc bv bt (σ.next + 5) S ∧ EX σ τ ∧ σ.next + 5 < τ.next ∧ τ.row (σ.next + 5) = some ([.int .i64 x, .int .i64 y, .int .i64 z], boxMeta)) ?_ ?_
 ·simp only [c_seq, RUNA, RUNB, zAd, zMo, zDi, zSu, zMu, zEq, zBe, zLe, zTo, fillS, wantG, vBox, Value.cells, one, putAt, ivS]
  refine ⟨?_, by omega⟩
  repeat first | assumption | exact EXn.refl _ _ | refine EXn.more ?_ _ | refine EXn.put ?_ (by omega) _ | refine EX.trans ?_ (by assumption)
 rintro S τ ⟨⟨s0, s1, s2, s3, s4, s5, s6, s7, s8, s13⟩, hE, hx, rx⟩
 have hVt := hV.mono hE
 have hk := hVt.kp
 cases hg : g ((x : Int), (y : Int), (z : Int)) with
 | some v =>
  obtain ⟨n1, rfl, hR1⟩ := hV.inv _ _ hg
  have hlk : ∀ k, alookup Tryz.prog (τ.more k) 108 (.map (some dm)) (.agg #[.int .i64 x, .int .i64 y, .int .i64 z]) true = some (.tuple #[.int .i64 n1, .bool true]) := fun k => (lk_get (τ := τ) get_more).trans (lookup_some keyA Tryz.underlying108 hVt.mp hg true)
  simp only [c_seq, RUNA, RUNB, zAd, zMo, zDi, zSu, zMu, zEq, zBe, zLe, zTo, fillS, wantG, vBox, Value.cells, one, putAt, TYA, hr, s0, s1, s2, s3, s13, k1 τ hk, rx, hlk]
  refine ⟨n1, l, s, g, rfl, hVt.mono ?_, ⟨[], by simp⟩, by omega, hR1, Or.inl rfl, EXF.of ?_⟩
  ·repeat first | assumption | exact EXn.refl _ _ | refine EXn.more ?_ _ | refine EXn.put ?_ (by omega) _ | refine EX.trans ?_ (by assumption)
  ·repeat first | assumption | exact EXn.refl _ _ | refine EXn.more ?_ _ | refine EXn.put ?_ (by omega) _ | refine EX.trans ?_ (by assumption)
 | none =>
  have hlk : ∀ k, alookup Tryz.prog (τ.more k) 108 (.map (some dm)) (.agg #[.int .i64 x, .int .i64 y, .int .i64 z]) true = some (.tuple #[.int .i64 0, .bool false]) := fun k => (lk_get (τ := τ) get_more).trans (lookup_none keyA Tryz.underlying108 hVt.mp hg (z := .int .i64 0) (by kernel_rfl) rfl true)
  simp only [c_seq, RUNA, RUNB, zAd, zMo, zDi, zSu, zMu, zEq, zBe, zLe, zTo, fillS, wantG, vBox, Value.cells, one, putAt, TYA, hr, s0, s1, s2, s3, s13, k1 τ hk, rx, hlk]
  refine gen_go (fun S τ' => ivS x y z bdn ba bb bc bv bt (σ.next + 5) S ∧ EX τ τ') ?_ ?_
  ·simp only [c_seq, RUNA, RUNB, zAd, zMo, zDi, zSu, zMu, zEq, zBe, zLe, zTo, fillS, wantG, vBox, Value.cells, one, putAt, ivS, s0, s1, s2, s3, s4, s5, s6, s7, s8, s13]
   repeat first | assumption | exact EXn.refl _ _ | refine EXn.more ?_ _ | refine EXn.put ?_ (by omega) _ | refine EX.trans ?_ (by assumption)
  clear s0 s1 s2 s3 s4 s5 s6 s7 s8 s13 hlk
  rintro S τ' ⟨⟨s0, s1, s2, s3, s4, s5, s6, s7, s8, s13⟩, hE'⟩
  have n' := hE'.next
  have hk' := hk.mono hE'
  obtain ⟨oAl, hxl⟩ := hA.ok_lvl ga
  obtain ⟨oBl, hyl⟩ := hB.ok_lvl gb
  obtain ⟨oCl, hzl⟩ := hC.ok_lvl gc
  refine d_go (ms := [0, 0, 3, 0, 0, 31, 0, 0, 255, 511, 1023]) (order := [0, 1, 3, 4, 6, 7, 2, 5, 8, 9, 10]) (by kernel_rfl) (by kernel_rfl) (by kernel_rfl) (by kernel_rfl) ?_
  simp only [YRUNA, YRUNB, zSh, bit, RUNA, RUNB, zAd, zMo, zDi, zSu, zMu, zEq, zBe, zLe, zTo, fillS, wantG, vBox, Value.cells, one, putAt, TYA, s0, s1, s2, s3, s4, s5, s6, s7, s8, s13, (k2 τ' hk').1, (k3 τ' hk').1, (k4 τ' hk').1]
  refine wpc_mono (level_spec (k2 _ (hk'.mono ?_)).2 ga hxl) ?_
  ·repeat first | assumption | exact EXn.refl _ _ | refine EXn.more ?_ _ | refine EXn.put ?_ (by omega) _ | refine EX.trans ?_ (by assumption)
  rintro r σ1 ⟨rfl, hE1⟩
  have hE1' : EX τ' σ1 := by repeat first | assumption | exact EXn.refl _ _ | refine EXn.more ?_ _ | refine EXn.put ?_ (by omega) _ | refine EX.trans ?_ (by assumption)
  have hk1 := hk'.mono hE1'
  simp only [YRUNA, YRUNB, zSh, bit, RUNA, RUNB, zAd, zMo, zDi, zSu, zMu, zEq, zBe, zLe, zTo, fillS, wantG, vBox, Value.cells, one, putAt, TYA, s0, s1, s2, s3, s4, s5, s6, s7, s8, s13, (k2 σ1 hk1).1, (k3 σ1 hk1).1, (k4 σ1 hk1).1]
  refine wpc_mono (level_spec (k3 _ hk1).2 gb hyl) ?_
  rintro r σ2 ⟨rfl, hE2⟩
  have hk2 := hk1.mono hE2
  simp only [YRUNA, YRUNB, zSh, bit, RUNA, RUNB, zAd, zMo, zDi, zSu, zMu, zEq, zBe, zLe, zTo, fillS, wantG, vBox, Value.cells, one, putAt, TYA, s0, s1, s2, s3, s4, s5, s6, s7, s8, s13, (k2 σ2 hk2).1, (k3 σ2 hk2).1, (k4 σ2 hk2).1]
  refine wpc_mono (level_spec (k4 _ hk2).2 gc hzl) ?_
  rintro r σ3 ⟨rfl, hE3⟩
  have hk3 := hk2.mono hE3
  simp only [YRUNA, YRUNB, zSh, bit, RUNA, RUNB, zAd, zMo, zDi, zSu, zMu, zEq, zBe, zLe, zTo, fillS, wantG, vBox, Value.cells, one, putAt, TYA, s0, s1, s2, s3, s4, s5, s6, s7, s8, s13, (k2 σ3 hk3).1, (k3 σ3 hk3).1, (k4 σ3 hk3).1, k_min3, min3_i]
  have hES : EX τ σ3 := EX.trans hE' (EX.trans hE1' (EX.trans hE2 hE3))
  have nS := hES.next
  have hVS := hVt.mono hES
  have rxS := (hES.row (σ.next + 5) hx).trans rx
  obtain ⟨v, hv⟩ : ∃ v, v = min (min (lvl la x) (lvl lb y)) (lvl lc z) := ⟨_, rfl⟩
  rw [← hv]
  have hlvv : lv ≤ v := by
   have := hA.lvl_le oA hlv10
   have := hB.lvl_le oB hlv10
   have := hC.lvl_le oC hlv10
   omega
  refine wpx_seq ?_
  simp only [RUNA, RUNB, zAd, zMo, zDi, zSu, zMu, zEq, zBe, zLe, zTo, fillS, wantG, vBox, Value.cells, one, putAt, TYA]
  refine seq_cut (ivJ H b mid dm la lb lc x y z bdn (σ.next + 5) s l lv σ) ?_ ?_
  ·have exS : EX σ σ3 := EX.trans hE hES
   by_cases hv10 : v < 10
   ·have hd : decide ((v : Int) < 10) = true := by simp; omega
    have hvx : v ≤ lvl la x := by omega
    have hvy : v ≤ lvl lb y := by omega
    have hvz : v ≤ lvl lc z := by omega
    obtain ⟨A0, rA0, oA0, eA0⟩ := blw_rep ga hA hxl hvx hv10 false
    obtain ⟨B0, rB0, oB0, eB0⟩ := blw_rep gb hB hyl hvy hv10 false
    obtain ⟨C0, rC0, oC0, eC0⟩ := blw_rep gc hC hzl hvz hv10 false
    obtain ⟨A1, rA1, oA1, eA1⟩ := blw_rep ga hA hxl hvx hv10 true
    obtain ⟨B1, rB1, oB1, eB1⟩ := blw_rep gb hB hyl hvy hv10 true
    obtain ⟨C1, rC1, oC1, eC1⟩ := blw_rep gc hC hzl hvz hv10 true
    obtain ⟨xa0, hxa0⟩ : ∃ q : Nat, blw la x v false = q := ⟨_, (Int.toNat_of_nonneg (Rep.lt ga.len rA0).1).symm⟩
    obtain ⟨xb0, hxb0⟩ : ∃ q : Nat, blw lb y v false = q := ⟨_, (Int.toNat_of_nonneg (Rep.lt gb.len rB0).1).symm⟩
    obtain ⟨xc0, hxc0⟩ : ∃ q : Nat, blw lc z v false = q := ⟨_, (Int.toNat_of_nonneg (Rep.lt gc.len rC0).1).symm⟩
    obtain ⟨xa1, hxa1⟩ : ∃ q : Nat, blw la x v true = q := ⟨_, (Int.toNat_of_nonneg (Rep.lt ga.len rA1).1).symm⟩
    obtain ⟨xb1, hxb1⟩ : ∃ q : Nat, blw lb y v true = q := ⟨_, (Int.toNat_of_nonneg (Rep.lt gb.len rB1).1).symm⟩
    obtain ⟨xc1, hxc1⟩ : ∃ q : Nat, blw lc z v true = q := ⟨_, (Int.toNat_of_nonneg (Rep.lt gc.len rC1).1).symm⟩
    rw [hxa0] at rA0
    rw [hxb0] at rB0
    rw [hxc0] at rC0
    rw [hxa1] at rA1
    rw [hxb1] at rB1
    rw [hxc1] at rC1
    have hp2 : 2 ^ (10 - v) = 2 * 2 ^ (10 - (v + 1)) := by rw [show 10 - v = (10 - (v + 1)) + 1 by omega, Nat.pow_succ]; omega
    have hp3 : 2 ^ (10 - v) ≤ 2 ^ (10 - lv) := Nat.pow_le_pow_right (by decide) (by omega)
    have hkS := hVS.kp
    simp only [c_seq, RUNA, RUNB, zAd, zMo, zDi, zSu, zMu, zEq, zBe, zLe, zTo, fillS, wantG, vBox, Value.cells, one, putAt, TYA, s0, s1, s2, s3, s4, s5, s6, s7, s8, s13, hd]
    refine gen_go (fun S τ' => ivS x y z bdn ba bb bc bv bt (σ.next + 5) S ∧ S.at 16 = .int .i64 v ∧ EX σ3 τ') ?_ ?_
    ·simp only [c_seq, RUNA, RUNB, zAd, zMo, zDi, zSu, zMu, zEq, zBe, zLe, zTo, fillS, wantG, vBox, Value.cells, one, putAt, ivS, s0, s1, s2, s3, s4, s5, s6, s7, s8, s13]
     repeat first | assumption | exact EXn.refl _ _ | refine EXn.more ?_ _ | refine EXn.put ?_ (by omega) _ | refine EX.trans ?_ (by assumption)
    clear s0 s1 s2 s3 s4 s5 s6 s7 s8 s13
    rintro S τ4 ⟨⟨s0, s1, s2, s3, s4, s5, s6, s7, s8, s13⟩, s16, hE4⟩
    have hk4 := hkS.mono hE4
    have hx4 := Nat.lt_of_lt_of_le hx (Nat.le_trans nS hE4.next)
    have rx4 := (hE4.row (σ.next + 5) (Nat.lt_of_lt_of_le hx nS)).trans rxS
    have ex4 : EX σ τ4 := EX.trans exS hE4
    have hV4 := hVS.mono hE4
    clear hE4 exS hES nS hE1' hE1 hE2 hE3 hk1 hk2 hk3 hk' hE' hVS rxS hVt hkS n' hE hk
    refine d_go (ms := [0, 0, 0, 0, 14, 0, 0, 0, 254, 0, 0, 0, 4094, 8191, 16383]) (order := [0, 1, 2, 3, 5, 6, 7, 9, 10, 11, 4, 8, 12, 13, 14]) (by kernel_rfl) (by kernel_rfl) (by kernel_rfl) (by kernel_rfl) ?_
    simp only [YRUNA, YRUNB, zSh, bit, c_seq, RUNA, RUNB, zAd, zMo, zDi, zSu, zMu, zEq, zBe, zLe, zTo, fillS, wantG, vBox, Value.cells, one, putAt, TYA, s0, s1, s2, s3, s4, s5, s6, s7, s8, s13, s16, (k2 τ4 hk4).1, (k3 τ4 hk4).1, (k4 τ4 hk4).1, k5 τ4 hk4]
    refine wpc_mono (below_spec (k2 _ (hk4.mono ?_)).2 ga hxl) ?_
    ·repeat first | assumption | exact EXn.refl _ _ | refine EXn.more ?_ _ | refine EXn.put ?_ (by omega) _ | refine EX.trans ?_ (by assumption)
    rintro r σa0 ⟨rfl, hEa0⟩
    have hEa0' : EX τ4 σa0 := by repeat first | assumption | exact EXn.refl _ _ | refine EXn.more ?_ _ | refine EXn.put ?_ (by omega) _ | refine EX.trans ?_ (by assumption)
    have hka0 := hk4.mono hEa0'
    simp only [YRUNA, YRUNB, zSh, bit, c_seq, RUNA, RUNB, zAd, zMo, zDi, zSu, zMu, zEq, zBe, zLe, zTo, fillS, wantG, vBox, Value.cells, one, putAt, TYA, s0, s1, s2, s3, s4, s5, s6, s7, s8, s13, s16, (k2 σa0 hka0).1, (k3 σa0 hka0).1, (k4 σa0 hka0).1, k5 σa0 hka0]
    refine wpc_mono (below_spec (k3 _ hka0).2 gb hyl) ?_
    rintro r σb0 ⟨rfl, hEb0⟩
    have hkb0 := hka0.mono hEb0
    simp only [YRUNA, YRUNB, zSh, bit, c_seq, RUNA, RUNB, zAd, zMo, zDi, zSu, zMu, zEq, zBe, zLe, zTo, fillS, wantG, vBox, Value.cells, one, putAt, TYA, s0, s1, s2, s3, s4, s5, s6, s7, s8, s13, s16, (k2 σb0 hkb0).1, (k3 σb0 hkb0).1, (k4 σb0 hkb0).1, k5 σb0 hkb0]
    refine wpc_mono (below_spec (k4 _ hkb0).2 gc hzl) ?_
    rintro r σc0 ⟨rfl, hEc0⟩
    have hkc0 := hkb0.mono hEc0
    simp only [YRUNA, YRUNB, zSh, bit, c_seq, RUNA, RUNB, zAd, zMo, zDi, zSu, zMu, zEq, zBe, zLe, zTo, fillS, wantG, vBox, Value.cells, one, putAt, TYA, s0, s1, s2, s3, s4, s5, s6, s7, s8, s13, s16, (k2 σc0 hkc0).1, (k3 σc0 hkc0).1, (k4 σc0 hkc0).1, k5 σc0 hkc0, hxa0, hxb0, hxc0]
    have ec0 : EX τ4 σc0 := EX.trans hEa0' (EX.trans hEb0 hEc0)
    refine wpc_mono (ih (n - 1) (by omega) (v + 1) (by omega) (by omega) xa0 xb0 xc0 A0 B0 C0 _ s l g rA0 rB0 rC0 oA0 oB0 oC0 (by omega) (hV4.mono ec0)) ?_
    rintro r σ5 ⟨n5, l5, s5', g5, rfl, hV5, hq5, hl5, hR5, hs5, hX5⟩
    have hk5 := hV5.kp
    have nc0 := ec0.next
    have n5' := hX5.next
    have hlt := hV.tb.lt
    have hltd := hV.lt
    have kbn : σ.next + 5 ≠ b ∧ σ.next + 5 ≠ mid ∧ σ.next + 5 ≠ dm ∧ σ.next + 5 ≠ s := ⟨by omega, by omega, by omega, by omega⟩
    have rx5 := (hX5.keep (by omega) kbn).trans ((ec0.row (σ.next + 5) hx4).trans rx4)
    have hXa : EXF (tX4 b mid dm s) σ σ5 := EXF.comp (EXF.of (EX.trans ex4 ec0)) (fun _ _ y => y) hX5
    have kbn5 : σ.next + 5 ≠ b ∧ σ.next + 5 ≠ mid ∧ σ.next + 5 ≠ dm ∧ σ.next + 5 ≠ s5' := by
     refine ⟨kbn.1, kbn.2.1, kbn.2.2.1, ?_⟩
     rcases hs5 with e | e
     ·rw [e]; exact kbn.2.2.2
     ·omega
    have hs5z : s5' = s ∨ σ.next ≤ s5' := by
     rcases hs5 with e | e
     ·exact Or.inl e
     ·have := ex4.next; exact Or.inr (by omega)
    simp only [YRUNA, YRUNB, zSh, bit, c_seq, RUNA, RUNB, zAd, zMo, zDi, zSu, zMu, zEq, zBe, zLe, zTo, fillS, wantG, vBox, Value.cells, one, putAt, TYA, s0, s1, s2, s3, s4, s5, s6, s7, s8, s13, s16, (k2 σ5 hk5).1, (k3 σ5 hk5).1, (k4 σ5 hk5).1, k5 σ5 hk5]
    refine gen_go (fun S τ' => ivS x y z bdn ba bb bc bv bt (σ.next + 5) S ∧ S.at 16 = .int .i64 v ∧ S.at 18 = .int .i64 n5 ∧ EX σ5 τ') ?_ ?_
    ·simp only [c_seq, RUNA, RUNB, zAd, zMo, zDi, zSu, zMu, zEq, zBe, zLe, zTo, fillS, wantG, vBox, Value.cells, one, putAt, ivS, s0, s1, s2, s3, s4, s5, s6, s7, s8, s13, s16]
     repeat first | assumption | exact EXn.refl _ _ | refine EXn.more ?_ _ | refine EXn.put ?_ (by omega) _ | refine EX.trans ?_ (by assumption)
    clear s0 s1 s2 s3 s4 s5 s6 s7 s8 s13 s16
    rintro S τ6 ⟨⟨s0, s1, s2, s3, s4, s5, s6, s7, s8, s13⟩, s16, s18, hE6⟩
    have hk6 := hk5.mono hE6
    have hV6 := hV5.mono hE6
    have n6 := hE6.next
    refine d_go (ms := [0, 0, 0, 0, 14, 0, 0, 0, 254, 0, 0, 0, 4094, 8191, 16383]) (order := [0, 1, 2, 3, 5, 6, 7, 9, 10, 11, 4, 8, 12, 13, 14]) (by kernel_rfl) (by kernel_rfl) (by kernel_rfl) (by kernel_rfl) ?_
    simp only [YRUNA, YRUNB, zSh, bit, c_seq, RUNA, RUNB, zAd, zMo, zDi, zSu, zMu, zEq, zBe, zLe, zTo, fillS, wantG, vBox, Value.cells, one, putAt, TYA, s0, s1, s2, s3, s4, s5, s6, s7, s8, s13, s16, (k2 τ6 hk6).1, (k3 τ6 hk6).1, (k4 τ6 hk6).1, k5 τ6 hk6]
    refine wpc_mono (below_spec (k2 _ (hk6.mono ?_)).2 ga hxl) ?_
    ·repeat first | assumption | exact EXn.refl _ _ | refine EXn.more ?_ _ | refine EXn.put ?_ (by omega) _ | refine EX.trans ?_ (by assumption)
    rintro r σa1 ⟨rfl, hEa1⟩
    have hEa1' : EX τ6 σa1 := by repeat first | assumption | exact EXn.refl _ _ | refine EXn.more ?_ _ | refine EXn.put ?_ (by omega) _ | refine EX.trans ?_ (by assumption)
    have hka1 := hk6.mono hEa1'
    simp only [YRUNA, YRUNB, zSh, bit, c_seq, RUNA, RUNB, zAd, zMo, zDi, zSu, zMu, zEq, zBe, zLe, zTo, fillS, wantG, vBox, Value.cells, one, putAt, TYA, s0, s1, s2, s3, s4, s5, s6, s7, s8, s13, s16, (k2 σa1 hka1).1, (k3 σa1 hka1).1, (k4 σa1 hka1).1, k5 σa1 hka1]
    refine wpc_mono (below_spec (k3 _ hka1).2 gb hyl) ?_
    rintro r σb1 ⟨rfl, hEb1⟩
    have hkb1 := hka1.mono hEb1
    simp only [YRUNA, YRUNB, zSh, bit, c_seq, RUNA, RUNB, zAd, zMo, zDi, zSu, zMu, zEq, zBe, zLe, zTo, fillS, wantG, vBox, Value.cells, one, putAt, TYA, s0, s1, s2, s3, s4, s5, s6, s7, s8, s13, s16, (k2 σb1 hkb1).1, (k3 σb1 hkb1).1, (k4 σb1 hkb1).1, k5 σb1 hkb1]
    refine wpc_mono (below_spec (k4 _ hkb1).2 gc hzl) ?_
    rintro r σc1 ⟨rfl, hEc1⟩
    have hkc1 := hkb1.mono hEc1
    simp only [YRUNA, YRUNB, zSh, bit, c_seq, RUNA, RUNB, zAd, zMo, zDi, zSu, zMu, zEq, zBe, zLe, zTo, fillS, wantG, vBox, Value.cells, one, putAt, TYA, s0, s1, s2, s3, s4, s5, s6, s7, s8, s13, s16, (k2 σc1 hkc1).1, (k3 σc1 hkc1).1, (k4 σc1 hkc1).1, k5 σc1 hkc1, hxa1, hxb1, hxc1]
    have ec1 : EX τ6 σc1 := EX.trans hEa1' (EX.trans hEb1 hEc1)
    have h56 : EX σ5 σc1 := EX.trans hE6 ec1
    refine wpc_mono (ih (n - 1) (by omega) (v + 1) (by omega) (by omega) xa1 xb1 xc1 A1 B1 C1 _ s5' l5 g5 rA1 rB1 rC1 oA1 oB1 oC1 (by omega) (hV6.mono ec1)) ?_
    rintro r σ7 ⟨n7, l7, s7', g7, rfl, hV7, hq7, hl7, hR7, hs7, hX7⟩
    have hk7 := hV7.kp
    have nc1 := h56.next
    have n7' := hX7.next
    have rx7 := (hX7.keep (by omega) kbn5).trans ((h56.row (σ.next + 5) (by omega)).trans rx5)
    have hXb : EXF (tX4 b mid dm s) σ σ7 := EXF.two (hXa.thn h56) hs5z hX7
    have kbn7 : σ.next + 5 ≠ b ∧ σ.next + 5 ≠ mid ∧ σ.next + 5 ≠ dm ∧ σ.next + 5 ≠ s7' := by
     refine ⟨kbn.1, kbn.2.1, kbn.2.2.1, ?_⟩
     rcases hs7 with e | e
     ·rw [e]; exact kbn5.2.2.2
     ·omega
    have hs7z : s7' = s ∨ σ.next ≤ s7' := by
     rcases hs7 with e | e
     ·rw [e]; exact hs5z
     ·have := hXa.next; exact Or.inr (by omega)
    have hXn := hXb.next
    simp only [YRUNA, YRUNB, zSh, bit, c_seq, RUNA, RUNB, zAd, zMo, zDi, zSu, zMu, zEq, zBe, zLe, zTo, fillS, wantG, vBox, Value.cells, one, putAt, TYA, s0, s1, s2, s3, s4, s5, s6, s7, s8, s13, s16, s18, (k2 σ7 hk7).1, (k3 σ7 hk7).1, (k4 σ7 hk7).1, k5 σ7 hk7, k6 σ7 hk7]
    obtain ⟨T0, rT0, oT0, eT0⟩ := hR5 A0 B0 C0 rA0 rB0 rC0
    obtain ⟨T1, rT1, oT1, eT1⟩ := hR7 A1 B1 C1 rA1 rB1 rC1
    obtain ⟨q7, hq7'⟩ := hq7
    have rT0' : Rep l7 T0 n5 := by rw [hq7']; exact rT0.mono
    have hV7m := hV7.mono (τ := (σ7.more 6)) (by repeat first | assumption | exact EXn.refl _ _ | refine EXn.more ?_ _ | refine EXn.put ?_ (by omega) _ | refine EX.trans ?_ (by assumption))
    refine wpc_mono (tvertex_spec hV7m.tb hV7m.fr (by omega) hv10 rT0' rT1 (oT0 _ (by omega) oA0 oB0 oC0) (oT1 _ (by omega) oA1 oB1 oC1)) ?_
    rintro r σ8 ⟨l8, T, n8, s8', rfl, hT8, hq8, hl8, rT, oT, eT, hs8, hX8, hF8⟩
    have n8' := hX8.next
    simp only [next_more] at n8' hs8
    simp only [c_seq, RUNA, RUNB, zAd, zMo, zDi, zSu, zMu, zEq, zBe, zLe, zTo, fillS, wantG, vBox, Value.cells, one, putAt, TYA]
    have hX8w : EXF (tX4 b mid dm s7') (σ7.more 6) σ8 := hX8.wide
    have rx8 : σ8.row (σ.next + 5) = some ([.int .i64 x, .int .i64 y, .int .i64 z], boxMeta) := (hX8w.keep (by first | omega | (simp only [next_more, next_put] at *; omega)) kbn7).trans rx7
    refine ⟨by simp only [c_seq, RUNA, RUNB, zAd, zMo, zDi, zSu, zMu, zEq, zBe, zLe, zTo, fillS, wantG, vBox, Value.cells, one, putAt, s3], by simp only [c_seq, RUNA, RUNB, zAd, zMo, zDi, zSu, zMu, zEq, zBe, zLe, zTo, fillS, wantG, vBox, Value.cells, one, putAt, s13], by omega, rx8, n8, l8, s8', g7, by simp only [c_seq, RUNA, RUNB, zAd, zMo, zDi, zSu, zMu, zEq, zBe, zLe, zTo, fillS, wantG, vBox, Value.cells, one, putAt], hV7m.tab iR.mono hT8 hq8 hs8 hX8 hF8, ?_, ?_, iR.step hA hB hC hv eA0 eB0 eC0 eA1 eB1 eC1 eT0 eT1 rT oT eT, ?_, EXF.two (hXb.more 6) hs7z hX8w⟩
    ·obtain ⟨q5, e5⟩ := hq5
     obtain ⟨q8, e8⟩ := hq8
     exact ⟨q5 ++ q7 ++ q8, by rw [e8, hq7', e5]; simp⟩
    ·omega
    ·rcases hs8 with e | e
     ·rw [e]
      rcases hs7 with e' | e'
      ·rw [e']
       rcases hs5 with e'' | e''
       ·exact Or.inl e''
       ·have := ex4.next; exact Or.inr ⟨by omega, by omega⟩
      ·exact Or.inr ⟨by have := hXa.next; omega, by omega⟩
     ·exact Or.inr ⟨by omega, by omega⟩
   ·have hd : decide ((v : Int) < 10) = false := by simp; omega
    have x2 := lvl_two ga hxl (by omega)
    have y2 := lvl_two gb hyl (by omega)
    have z2 := lvl_two gc hzl (by omega)
    have hlf := iR.leaf (la := la) (lb := lb) (lc := lc) x2 y2 z2 l
    by_cases hx1 : x = 1
    ·have hd1 : ((x : Int) == 1) = true := by simp; omega
     rw [if_pos hx1] at hlf
     simp only [c_seq, RUNA, RUNB, zAd, zMo, zDi, zSu, zMu, zEq, zBe, zLe, zTo, fillS, wantG, vBox, Value.cells, one, putAt, TYA, s0, s1, s2, s3, s4, s5, s6, s7, s8, s13, hd, hd1]
     refine ⟨by simp only [c_seq, RUNA, RUNB, zAd, zMo, zDi, zSu, zMu, zEq, zBe, zLe, zTo, fillS, wantG, vBox, Value.cells, one, putAt, s3], by simp only [c_seq, RUNA, RUNB, zAd, zMo, zDi, zSu, zMu, zEq, zBe, zLe, zTo, fillS, wantG, vBox, Value.cells, one, putAt, s13], by first | omega | (simp only [next_more, next_put] at *; omega), rxS, _, l, s, g, by simp only [c_seq, RUNA, RUNB, zAd, zMo, zDi, zSu, zMu, zEq, zBe, zLe, zTo, fillS, wantG, vBox, Value.cells, one, putAt], hVS.mono ?_, ⟨[], by simp⟩, by omega, hlf, Or.inl rfl, EXF.of ?_⟩
     ·repeat first | assumption | exact EXn.refl _ _ | refine EXn.more ?_ _ | refine EXn.put ?_ (by omega) _ | refine EX.trans ?_ (by assumption)
     ·repeat first | assumption | exact EXn.refl _ _ | refine EXn.more ?_ _ | refine EXn.put ?_ (by omega) _ | refine EX.trans ?_ (by assumption)
    ·have hd1 : ((x : Int) == 1) = false := by simp; omega
     rw [if_neg hx1] at hlf
     simp only [c_seq, RUNA, RUNB, zAd, zMo, zDi, zSu, zMu, zEq, zBe, zLe, zTo, fillS, wantG, vBox, Value.cells, one, putAt, TYA, s0, s1, s2, s3, s4, s5, s6, s7, s8, s13, hd, hd1]
     refine ⟨by simp only [c_seq, RUNA, RUNB, zAd, zMo, zDi, zSu, zMu, zEq, zBe, zLe, zTo, fillS, wantG, vBox, Value.cells, one, putAt, s3], by simp only [c_seq, RUNA, RUNB, zAd, zMo, zDi, zSu, zMu, zEq, zBe, zLe, zTo, fillS, wantG, vBox, Value.cells, one, putAt, s13], by first | omega | (simp only [next_more, next_put] at *; omega), rxS, _, l, s, g, by simp only [c_seq, RUNA, RUNB, zAd, zMo, zDi, zSu, zMu, zEq, zBe, zLe, zTo, fillS, wantG, vBox, Value.cells, one, putAt], hVS.mono ?_, ⟨[], by simp⟩, by omega, hlf, Or.inl rfl, EXF.of ?_⟩
     ·repeat first | assumption | exact EXn.refl _ _ | refine EXn.more ?_ _ | refine EXn.put ?_ (by omega) _ | refine EX.trans ?_ (by assumption)
     ·repeat first | assumption | exact EXn.refl _ _ | refine EXn.more ?_ _ | refine EXn.put ?_ (by omega) _ | refine EX.trans ?_ (by assumption)
  ·clear s0 s1 s2 s3 s4 s5 s6 s7 s8 s13
   rintro S τ3 ⟨s3, s13, hkb, rx3, n1, l', s', g', s17, hV3, hq, hl, hR, hs, hX⟩
   simp only [c_seq, RUNA, RUNB, zAd, zMo, zDi, zSu, zMu, zEq, zBe, zLe, zTo, fillS, wantG, vBox, Value.cells, one, putAt, TYA, s3, s13, s17, rx3, k1 τ3 hV3.kp]
   refine update_ex keyA Tryz.underlying108 hV3.mp ?_ (k := ((x : Int), (y : Int), (z : Int))) rfl ?_
   ·rfl
   intro es' hM
   simp only [c_seq, RUNA, RUNB, zAd, zMo, zDi, zSu, zMu, zEq, zBe, zLe, zTo, fillS, wantG, vBox, Value.cells, one, putAt, TYA, s3, s13, s17, hr]
   refine ⟨n1, l', s', _, rfl, ((hV3.mono ?_).upd hM hR).mono ?_, hq, hl, hR, ?_, ?_⟩
   ·repeat first | assumption | exact EXn.refl _ _ | refine EXn.more ?_ _ | refine EXn.put ?_ (by omega) _ | refine EX.trans ?_ (by assumption)
   ·repeat first | assumption | exact EXn.refl _ _ | refine EXn.more ?_ _ | refine EXn.put ?_ (by omega) _ | refine EX.trans ?_ (by assumption)
   ·rcases hs with hs | hs
    ·exact Or.inl hs
    ·exact Or.inr ⟨hs.1, by first | omega | (simp only [next_more, next_put] at *; omega)⟩
   ·exact EXF.more (EXF.put (EXF.more hX 4) (Or.inr (Or.inr (Or.inr (Or.inl rfl)))) _) 2
end Go.Proofs.Q
namespace Go.Proofs.Q
open Go.AI
theorem DVi.row {lo hi : Nat} {σ : St} {v : Value} {T : Dt} (h : DVi lo hi σ v (cd T)) (ho : T.ok 0) : ∃ id off c row m, v = .agg #[.slice (some ⟨id, off, none⟩) (cd T).1.length c, .int .i64 (cd T).2] ∧ lo ≤ id ∧ id < hi ∧ σ.row id = some (row, m3 m) ∧ (row.drop off).take ((cd T).1.length * 3) = flat (cd T).1 := by
 obtain ⟨s, h1, h2 | h2⟩ := h
 ·obtain ⟨id, off, c, row, m, rfl, h3⟩ := h2
  exact ⟨id, off, c, row, m, h1, h3⟩
 ·have := (cd_gd ho).1.len
  rw [h2.2] at this; simp at this
theorem dv_row {τ : St} {id off c : Nat} {row : List Value} {m : Mta} {l : List Vtx} {rt : Int} (hi : id < τ.next) (hr : τ.row id = some (row, m3 m)) (h : (row.drop off).take (l.length * 3) = flat l) : DV τ (.agg #[.slice (some ⟨id, off, none⟩) l.length c, .int .i64 rt]) (l, rt) :=
 ⟨_, rfl, Or.inl ⟨id, off, c, row, m, rfl, hi, hr, h⟩⟩
theorem TBL.exf {X : Nat → Prop} {b mid s : Nat} {σ τ : St} {l : List Vtx} (h : TBL b mid s σ l) (e : EXF X σ τ) (h1 : ¬ X b) (h2 : ¬ X mid) (h3 : ¬ X s) : TBL b mid s τ l := by
 obtain ⟨⟨sv, g1, g2⟩, g3, g4, ⟨g5, g6, g7⟩, g8⟩ := h
 have := e.next
 exact ⟨⟨sv, (e.row b g5 h1).trans g1, g2.mono e.next (e.row s g7 h3)⟩, g3.of (e.get mid g6 h2), g4, ⟨by omega, by omega, by omega⟩, g8⟩
set_option maxHeartbeats 2000000 in
theorem ite_spec {σ : St} {a b c : Value} {φ ψ χ : As → Bool} (ha : IsD 0 σ.next σ a φ) (hb : IsD 0 σ.next σ b ψ) (hc : IsD 0 σ.next σ c χ) (hF : Fr σ) :
    wpc Tryz.prog 72 #[a, b, c] σ fun r σ' => IsD σ.next σ'.next σ' r (fun f => if φ f = true then ψ f else χ f) ∧ EX σ σ' := by
 obtain ⟨A, hA, oA, eA⟩ := ha
 obtain ⟨B, hB, oB, eB⟩ := hb
 obtain ⟨C, hC, oC, eC⟩ := hc
 obtain ⟨gA, rA⟩ := cd_gd oA
 obtain ⟨gB, rB⟩ := cd_gd oB
 obtain ⟨gC, rC⟩ := cd_gd oC
 obtain ⟨ia, fa, ca, rowa, ma, rfl, -, la, wa, ta⟩ := hA.row oA
 obtain ⟨ib, fb, cb, rowb, mb, rfl, -, lb, wb, tb⟩ := hB.row oB
 obtain ⟨ic, fc, cc, rowc, mc, rfl, -, lc, wc, tc⟩ := hC.row oC
 obtain ⟨xa, hxa⟩ : ∃ q : Nat, (cd A).2 = q := ⟨_, (Int.toNat_of_nonneg (Rep.lt gA.len rA).1).symm⟩
 obtain ⟨xb, hxb⟩ : ∃ q : Nat, (cd B).2 = q := ⟨_, (Int.toNat_of_nonneg (Rep.lt gB.len rB).1).symm⟩
 obtain ⟨xc, hxc⟩ : ∃ q : Nat, (cd C).2 = q := ⟨_, (Int.toNat_of_nonneg (Rep.lt gC.len rC).1).symm⟩
 rw [hxa] at rA
 rw [hxb] at rB
 rw [hxc] at rC
 simp only [hxa, hxb, hxc]
 refine body_go Tryz.func72 rfl ?_
 have hr := Tryz.results72
 simp only [c_seq, RUNA, RUNB, zAd, zMo, zDi, zSu, zMu, zEq, zBe, zLe, zTo, fillS, wantG, vBox, Value.cells, one, putAt, TYA, hr]
 refine wpc_mono (newTable_spec _) ?_
 rintro r σ1 ⟨b, mid, s, rfl, hT, hb1, hm1, hs1, hE1⟩
 have n1 := hE1.next
 simp only [next_more, next_put] at n1 hb1 hm1 hs1
 simp only [c_seq, RUNA, RUNB, zAd, zMo, zDi, zSu, zMu, zEq, zBe, zLe, zTo, fillS, wantG, vBox, Value.cells, one, putAt, TYA]
 have e1 : EX σ σ1 := by repeat first | assumption | exact EXn.refl _ _ | refine EXn.more ?_ _ | refine EXn.put ?_ (by omega) _ | refine EX.trans ?_ (by assumption)
 have a1 : σ1.row σ.next = some ([.slice (some ⟨ia, fa, none⟩) (cd A).1.length ca, .int .i64 xa], boxMeta) := by rw [hE1.row _ (by first | omega | (simp only [next_more, next_put] at *; omega))]; simp only [c_seq, RUNA, RUNB, zAd, zMo, zDi, zSu, zMu, zEq, zBe, zLe, zTo, fillS, wantG, vBox, Value.cells, one, putAt]
 have b1 : σ1.row (σ.next + 1) = some ([.slice (some ⟨ib, fb, none⟩) (cd B).1.length cb, .int .i64 xb], boxMeta) := by rw [hE1.row _ (by first | omega | (simp only [next_more, next_put] at *; omega))]; simp only [c_seq, RUNA, RUNB, zAd, zMo, zDi, zSu, zMu, zEq, zBe, zLe, zTo, fillS, wantG, vBox, Value.cells, one, putAt]
 have c1 : σ1.row (σ.next + 2) = some ([.slice (some ⟨ic, fc, none⟩) (cd C).1.length cc, .int .i64 xc], boxMeta) := by rw [hE1.row _ (by first | omega | (simp only [next_more, next_put] at *; omega))]; simp only [c_seq, RUNA, RUNB, zAd, zMo, zDi, zSu, zMu, zEq, zBe, zLe, zTo, fillS, wantG, vBox, Value.cells, one, putAt]
 have r1 : σ1.row (σ.next + 3) = some ([.slice none 0 0, .int .i64 0], boxMeta) := by rw [hE1.row _ (by first | omega | (simp only [next_more, next_put] at *; omega))]; simp only [c_seq, RUNA, RUNB, zAd, zMo, zDi, zSu, zMu, zEq, zBe, zLe, zTo, fillS, wantG, vBox, Value.cells, one, putAt]
 have hlt := hT.lt
 have f1 := e1.fr hF
 obtain ⟨H, hH⟩ : ∃ H : List (Nat × (List Value × Mta)), H = [(σ1.next + 1, ([.map (some σ1.next)], boxMeta)), (σ.next, ([.slice (some ⟨ia, fa, none⟩) (cd A).1.length ca, .int .i64 xa], boxMeta)), (σ.next + 1, ([.slice (some ⟨ib, fb, none⟩) (cd B).1.length cb, .int .i64 xb], boxMeta)), (σ.next + 2, ([.slice (some ⟨ic, fc, none⟩) (cd C).1.length cc, .int .i64 xc], boxMeta)),
  (σ1.next + 3, ([.func (.func 83) #[] #[.pointer (some ⟨σ1.next + 1, 0, none⟩), .pointer (some ⟨σ.next, 0, none⟩), .pointer (some ⟨σ.next + 1, 0, none⟩), .pointer (some ⟨σ.next + 2, 0, none⟩), .pointer (some ⟨σ1.next + 3, 0, none⟩), .pointer (some ⟨σ.next + 5, 0, none⟩)]], boxMeta)),
  (σ.next + 5, ([.pointer (some ⟨b, 0, none⟩)], boxMeta)), (ia, (rowa, m3 ma)), (ib, (rowb, m3 mb)), (ic, (rowc, m3 mc))] := ⟨_, rfl⟩
 have hsk : ∀ p ∈ H, p.1 ≠ b ∧ p.1 ≠ mid ∧ p.1 ≠ σ1.next ∧ p.1 ≠ s := by
  intro p hp
  rw [hH] at hp
  simp only [List.mem_cons, List.not_mem_nil, or_false] at hp
  rcases hp with rfl | rfl | rfl | rfl | rfl | rfl | rfl | rfl | rfl <;> (simp only; omega)
 refine gen_go (fun S τ => S.at 3 = .pointer (some ⟨σ.next, 0, none⟩) ∧ S.at 4 = .pointer (some ⟨σ.next + 1, 0, none⟩) ∧ S.at 5 = .pointer (some ⟨σ.next + 2, 0, none⟩) ∧ S.at 6 = .pointer (some ⟨σ.next + 3, 0, none⟩) ∧ S.at 7 = .pointer (some ⟨σ.next + 5, 0, none⟩) ∧ S.at 9 = .pointer (some ⟨σ1.next + 3, 0, none⟩) ∧ τ.row (σ.next + 3) = some ([.slice none 0 0, .int .i64 0], boxMeta) ∧ EX σ τ ∧ σ1.next + 4 ≤ τ.next ∧ IV H b mid σ1.next enc3 [] (iR (cd A).1 (cd B).1 (cd C).1) s c01 (fun _ => none) τ) ?_ ?_
 ·have q1 : ¬ σ.next + 3 = σ.next + 5 := by omega
  have q2 : ¬ σ.next + 3 = σ1.next + 1 := by omega
  have q3 : ¬ σ.next + 3 = σ1.next + 3 := by omega
  have q4 : ¬ σ.next + 3 = σ1.next := by omega
  simp only [c_seq, RUNA, RUNB, zAd, zMo, zDi, zSu, zMu, zEq, zBe, zLe, zTo, fillS, wantG, vBox, Value.cells, one, putAt, q1, q2, q3, q4, r1]
  refine ⟨?_, by omega, ⟨by repeat first | assumption | refine Fr.more ?_ _ | refine Fr.put ?_ _ _, ?_, ?_, ?_, by first | omega | (simp only [next_more, next_put] at *; omega), ⟨by omega, by omega, by omega⟩, hsk, fun k v h => by simp at h, fun k h => by simp at h⟩⟩
  ·repeat first | assumption | exact EXn.refl _ _ | refine EXn.more ?_ _ | refine EXn.put ?_ (by omega) _ | refine EX.trans ?_ (by assumption)
  ·intro p hp
   rw [hH] at hp
   simp only [List.mem_cons, List.not_mem_nil, or_false] at hp
   have w5 : ¬ σ.next + 5 = σ1.next := by omega
   have w6 : ¬ σ.next + 5 = σ1.next + 1 := by omega
   have w7 : ¬ σ.next + 5 = σ1.next + 3 := by omega
   rcases hp with rfl | rfl | rfl | rfl | rfl | rfl | rfl | rfl | rfl
   ·exact ⟨by first | omega | (simp only [next_more, next_put] at *; omega), by simp only [c_seq, RUNA, RUNB, zAd, zMo, zDi, zSu, zMu, zEq, zBe, zLe, zTo, fillS, wantG, vBox, Value.cells, one, putAt]⟩
   ·exact ⟨by first | omega | (simp only [next_more, next_put] at *; omega), by rw [EXn.row (n := σ.next + 5) (σ := σ1) (by repeat first | assumption | exact EXn.refl _ _ | refine EXn.more ?_ _ | refine EXn.put ?_ (by omega) _ | refine EX.trans ?_ (by assumption)) _ (by omega)]; exact a1⟩
   ·exact ⟨by first | omega | (simp only [next_more, next_put] at *; omega), by rw [EXn.row (n := σ.next + 5) (σ := σ1) (by repeat first | assumption | exact EXn.refl _ _ | refine EXn.more ?_ _ | refine EXn.put ?_ (by omega) _ | refine EX.trans ?_ (by assumption)) _ (by omega)]; exact b1⟩
   ·exact ⟨by first | omega | (simp only [next_more, next_put] at *; omega), by rw [EXn.row (n := σ.next + 5) (σ := σ1) (by repeat first | assumption | exact EXn.refl _ _ | refine EXn.more ?_ _ | refine EXn.put ?_ (by omega) _ | refine EX.trans ?_ (by assumption)) _ (by omega)]; exact c1⟩
   ·exact ⟨by first | omega | (simp only [next_more, next_put] at *; omega), by simp only [c_seq, RUNA, RUNB, zAd, zMo, zDi, zSu, zMu, zEq, zBe, zLe, zTo, fillS, wantG, vBox, Value.cells, one, putAt]⟩
   ·exact ⟨by first | omega | (simp only [next_more, next_put] at *; omega), by simp only [c_seq, RUNA, RUNB, zAd, zMo, zDi, zSu, zMu, zEq, zBe, zLe, zTo, fillS, wantG, vBox, Value.cells, one, putAt, w5, w6, w7]⟩
   ·exact ⟨by first | omega | (simp only [next_more, next_put] at *; omega), by rw [EXn.row (n := σ.next + 5) (σ := σ1) (by repeat first | assumption | exact EXn.refl _ _ | refine EXn.more ?_ _ | refine EXn.put ?_ (by omega) _ | refine EX.trans ?_ (by assumption)) _ (by simp only; omega), e1.row _ la]; exact wa⟩
   ·exact ⟨by first | omega | (simp only [next_more, next_put] at *; omega), by rw [EXn.row (n := σ.next + 5) (σ := σ1) (by repeat first | assumption | exact EXn.refl _ _ | refine EXn.more ?_ _ | refine EXn.put ?_ (by omega) _ | refine EX.trans ?_ (by assumption)) _ (by simp only; omega), e1.row _ lb]; exact wb⟩
   ·exact ⟨by first | omega | (simp only [next_more, next_put] at *; omega), by rw [EXn.row (n := σ.next + 5) (σ := σ1) (by repeat first | assumption | exact EXn.refl _ _ | refine EXn.more ?_ _ | refine EXn.put ?_ (by omega) _ | refine EX.trans ?_ (by assumption)) _ (by simp only; omega), e1.row _ lc]; exact wc⟩
  ·refine hT.exf (X := fun id => id = σ.next + 5) ?_ (by omega) (by omega) (by omega)
   repeat first | exact EXF.refl _ _ | refine EXF.more ?_ _ | refine EXF.put ?_ (by first | exact Or.inl (by omega) | exact Or.inr rfl) _
  ·exact MP.new (by simp only [c_seq, RUNA, RUNB, zAd, zMo, zDi, zSu, zMu, zEq, zBe, zLe, zTo, fillS, wantG, vBox, Value.cells, one, putAt])
 rintro S τ ⟨s3, s4, s5, s6, s7, s9, r3, hE, hn, hV⟩
 have nn := hE.next
 have hk := hV.kp
 have k1 : ∀ τ, Keep τ H → τ.row (σ1.next + 1) = some ([.map (some σ1.next)], boxMeta) := fun τ h => (h (_, _) (by rw [hH]; exact (.head _))).2
 have k2 : ∀ τ, Keep τ H → τ.row σ.next = some ([.slice (some ⟨ia, fa, none⟩) (cd A).1.length ca, .int .i64 xa], boxMeta) ∧ DV τ (.agg #[.slice (some ⟨ia, fa, none⟩) (cd A).1.length ca, .int .i64 xa]) ((cd A).1, (xa : Int)) := fun τ h => ⟨(h (_, _) (by rw [hH]; exact (.tail _ (.head _)))).2, dv_row (h (_, _) (by rw [hH]; exact (.tail _ (.tail _ (.tail _ (.tail _ (.tail _ (.tail _ (.head _))))))))).1 (h (_, _) (by rw [hH]; exact (.tail _ (.tail _ (.tail _ (.tail _ (.tail _ (.tail _ (.head _))))))))).2 ta⟩
 have k3 : ∀ τ, Keep τ H → τ.row (σ.next + 1) = some ([.slice (some ⟨ib, fb, none⟩) (cd B).1.length cb, .int .i64 xb], boxMeta) ∧ DV τ (.agg #[.slice (some ⟨ib, fb, none⟩) (cd B).1.length cb, .int .i64 xb]) ((cd B).1, (xb : Int)) := fun τ h => ⟨(h (_, _) (by rw [hH]; exact (.tail _ (.tail _ (.head _))))).2, dv_row (h (_, _) (by rw [hH]; exact (.tail _ (.tail _ (.tail _ (.tail _ (.tail _ (.tail _ (.tail _ (.head _)))))))))).1 (h (_, _) (by rw [hH]; exact (.tail _ (.tail _ (.tail _ (.tail _ (.tail _ (.tail _ (.tail _ (.head _)))))))))).2 tb⟩
 have k4 : ∀ τ, Keep τ H → τ.row (σ.next + 2) = some ([.slice (some ⟨ic, fc, none⟩) (cd C).1.length cc, .int .i64 xc], boxMeta) ∧ DV τ (.agg #[.slice (some ⟨ic, fc, none⟩) (cd C).1.length cc, .int .i64 xc]) ((cd C).1, (xc : Int)) := fun τ h => ⟨(h (_, _) (by rw [hH]; exact (.tail _ (.tail _ (.tail _ (.head _)))))).2, dv_row (h (_, _) (by rw [hH]; exact (.tail _ (.tail _ (.tail _ (.tail _ (.tail _ (.tail _ (.tail _ (.tail _ (.head _))))))))))).1 (h (_, _) (by rw [hH]; exact (.tail _ (.tail _ (.tail _ (.tail _ (.tail _ (.tail _ (.tail _ (.tail _ (.head _))))))))))).2 tc⟩
 have k5 : ∀ τ, Keep τ H → τ.row (σ1.next + 3) = some ([.func (.func 83) #[] #[.pointer (some ⟨σ1.next + 1, 0, none⟩), .pointer (some ⟨σ.next, 0, none⟩), .pointer (some ⟨σ.next + 1, 0, none⟩), .pointer (some ⟨σ.next + 2, 0, none⟩), .pointer (some ⟨σ1.next + 3, 0, none⟩), .pointer (some ⟨σ.next + 5, 0, none⟩)]], boxMeta) := fun τ h => (h (_, _) (by rw [hH]; exact (.tail _ (.tail _ (.tail _ (.tail _ (.head _))))))).2
 have k6 : ∀ τ, Keep τ H → τ.row (σ.next + 5) = some ([.pointer (some ⟨b, 0, none⟩)], boxMeta) := fun τ h => (h (_, _) (by rw [hH]; exact (.tail _ (.tail _ (.tail _ (.tail _ (.tail _ (.head _)))))))).2
 refine d_go (ms := [0, 0, 0, 4, 0, 16, 0, 64, 254, 511, 1023]) (order := [0, 1, 2, 3, 4, 5, 6, 7, 8, 9, 10]) (by kernel_rfl) (by kernel_rfl) (by kernel_rfl) (by kernel_rfl) ?_
 simp only [YRUNA, YRUNB, zSh, bit, c_seq, RUNA, RUNB, zAd, zMo, zDi, zSu, zMu, zEq, zBe, zLe, zTo, fillS, wantG, vBox, Value.cells, one, putAt, TYA, s3, s4, s5, s6, s7, s9, (k2 τ hk).1, (k3 τ hk).1, (k4 τ hk).1, k5 τ hk, k6 τ hk]
 have hc01 : c01.length = 2 := rfl
 have hp10 : 2 ^ (10 - 0) = 1024 := rfl
 refine wpc_mono (ivisit H (σ1.next + 1) σ.next (σ.next + 1) (σ.next + 2) (σ1.next + 3) (σ.next + 5) b mid σ1.next (cd A).1 (cd B).1 (cd C).1 xa xb xc _ _ _ ca cb cc gA gB gC k1 k2 k3 k4 k5 k6 10 0 (by omega) (by omega) xa xb xc A B C _ s c01 (fun _ => none) rA rB rC oA oB oC (by omega) (hV.mono ?_)) ?_
 ·repeat first | assumption | exact EXn.refl _ _ | refine EXn.more ?_ _ | refine EXn.put ?_ (by omega) _ | refine EX.trans ?_ (by assumption)
 rintro r σ2 ⟨n2, l2, s2, g2, rfl, hV2, hq2, hl2, hR2, hs2, hX2⟩
 have hk2 := hV2.kp
 have nx2 := hX2.next
 simp only [next_more] at nx2
 obtain ⟨T, rT, oT, eT⟩ := hR2 A B C rA rB rC
 have r2 : σ2.row (σ.next + 3) = some ([.slice none 0 0, .int .i64 0], boxMeta) := (hX2.keep (by first | omega | (simp only [next_more, next_put] at *; omega)) ⟨by omega, by omega, by omega, by omega⟩).trans r3
 have ex2 : EX σ σ2 := by
  refine EXF.ex (X := tX4 b mid σ1.next s) (EXF.comp (EXF.of ?_) (fun _ _ y => y) hX2) (fun i hi x => by rcases x with x | x | x | x <;> omega)
  repeat first | assumption | exact EXn.refl _ _ | refine EXn.more ?_ _ | refine EXn.put ?_ (by omega) _ | refine EX.trans ?_ (by assumption)
 simp only [YRUNA, YRUNB, zSh, bit, c_seq, RUNA, RUNB, zAd, zMo, zDi, zSu, zMu, zEq, zBe, zLe, zTo, fillS, wantG, vBox, Value.cells, one, putAt, TYA, s3, s4, s5, s6, s7, s9, (k2 σ2 hk2).1, (k3 σ2 hk2).1, (k4 σ2 hk2).1, k5 σ2 hk2, k6 σ2 hk2]
 refine wpc_mono (tdiagram_spec hV2.tb hV2.fr (by omega) rT (oT 0 (by omega) oA oB oC)) ?_
 rintro r σ3 ⟨hD3, hE3⟩
 have nx3 := hE3.next
 have hk3 := hk2.mono hE3
 have r3' := (hE3.row (σ.next + 3) (by omega)).trans r2
 have ex3 : EX σ σ3 := EX.trans ex2 hE3
 have hI : IsD σ2.next σ3.next σ3 r (fun f => if φ f = true then ψ f else χ f) := ⟨T, hD3, oT 0 (by omega) oA oB oC, fun f => by rw [eT, eA, eB, eC]⟩
 obtain ⟨o, k, c, i, rfl⟩ := hI.open
 have w1 : ¬ σ.next = σ.next + 3 := by omega
 have w2 : ¬ σ1.next + 3 = σ.next + 3 := by omega
 have w3 : ¬ σ.next + 5 = σ.next + 3 := by omega
 simp only [YRUNA, YRUNB, zSh, bit, c_seq, RUNA, RUNB, zAd, zMo, zDi, zSu, zMu, zEq, zBe, zLe, zTo, fillS, wantG, vBox, Value.cells, one, putAt, TYA, s3, s4, s5, s6, s7, s9, (k2 σ3 hk3).1, (k3 σ3 hk3).1, (k4 σ3 hk3).1, k5 σ3 hk3, k6 σ3 hk3, r3', w1, w2, w3, hr]
 refine ⟨IsD.weak (hI.un ?_) (by omega), ?_⟩
 ·repeat first | assumption | exact UN.refl _ _ _ | refine UN.more ?_ _ | refine UN.put ?_ (by omega) _ | refine UN.ex (by assumption) ?_ (by first | omega | (simp only [next_more, next_put]; omega)) | refine UN.exb (by assumption) ?_ (by first | omega | (simp only [next_more, next_put]; omega)) (by omega)
 ·repeat first | assumption | exact EXn.refl _ _ | refine EXn.more ?_ _ | refine EXn.put ?_ (by omega) _ | refine EX.trans ?_ (by assumption)
end Go.Proofs.Q
namespace Go.Proofs.Q
open Go.AI
set_option maxRecDepth 20000
theorem Constant_is (b : Bool) (σ : St) : wpc Tryz.prog 46 #[.bool b] σ fun r σ' => IsD σ.next σ'.next σ' r (fun _ => b) ∧ EX σ σ' := by
 refine wpc_mono (Constant_spec b σ) ?_
 rintro r σ' ⟨h, hE⟩
 rw [constD_cd] at h
 exact ⟨⟨.leaf b, h.i, trivial, fun f => rfl⟩, hE⟩
theorem IsD.zero {lo hi lo' : Nat} {σ : St} {v : Value} {φ : As → Bool} (h : IsD lo hi σ v φ) (hl : lo' ≤ lo) (hh : hi ≤ σ.next) : IsD lo' σ.next σ v φ := (h.weak hl).hi hh
theorem Ite_spec {σ : St} {a b c : Value} {φ ψ χ : As → Bool} (ha : IsD 0 σ.next σ a φ) (hb : IsD 0 σ.next σ b ψ) (hc : IsD 0 σ.next σ c χ) (hF : Fr σ) :
    wpc Tryz.prog 47 #[a, b, c] σ fun r σ' => IsD σ.next σ'.next σ' r (fun f => if φ f = true then ψ f else χ f) ∧ EX σ σ' := by
 obtain ⟨o1, k1, c1, i1, rfl⟩ := ha.open
 obtain ⟨o2, k2, c2, i2, rfl⟩ := hb.open
 obtain ⟨o3, k3, c3, i3, rfl⟩ := hc.open
 refine body_go Tryz.func47 rfl ?_
 have hr := Tryz.results47
 simp only [c_seq, RUNA, RUNB, zAd, zMo, zDi, zSu, zMu, zEq, zBe, zLe, zTo, fillS, wantG, vBox, Value.cells, one, putAt, TYA, hr]
 refine d_go (ms := [0, 1, 0, 7, 0, 31, 63, 127]) (order := [0, 2, 4, 1, 3, 5, 6, 7]) (by kernel_rfl) (by kernel_rfl) (by kernel_rfl) (by kernel_rfl) ?_
 simp only [YRUNA, YRUNB, zSh, bit, c_seq, RUNA, RUNB, zAd, zMo, zDi, zSu, zMu, zEq, zBe, zLe, zTo, fillS, wantG, vBox, Value.cells, one, putAt, TYA]
 have ha' := ha
 have hb' := hb
 have hc' := hc
 obtain ⟨A, hA, oA, eA⟩ := ha'
 obtain ⟨B, hB, oB, eB⟩ := hb'
 obtain ⟨C, hC, oC, eC⟩ := hc'
 refine wpc_mono (safe_spec (hA.un ?_) (by first | omega | (simp only [next_more, next_put] at *; omega)) oA (by repeat first | assumption | refine Fr.more ?_ _ | refine Fr.put ?_ _ _)) ?_
 ·repeat first | assumption | exact UN.refl _ _ _ | refine UN.more ?_ _ | refine UN.put ?_ (by omega) _ | refine UN.ex (by assumption) ?_ (by first | omega | (simp only [next_more, next_put]; omega)) | refine UN.exb (by assumption) ?_ (by first | omega | (simp only [next_more, next_put]; omega)) (by omega)
 rintro r σ1 ⟨rfl, hE1⟩
 have n1 := hE1.next
 simp only [next_more, next_put] at n1
 have a1 : σ1.row σ.next = some ([.slice o1 k1 c1, .int .i64 i1], boxMeta) := by rw [hE1.row _ (by first | omega | (simp only [next_more, next_put] at *; omega))]; simp only [c_seq, RUNA, RUNB, zAd, zMo, zDi, zSu, zMu, zEq, zBe, zLe, zTo, fillS, wantG, vBox, Value.cells, one, putAt]
 have b1 : σ1.row (σ.next + 1) = some ([.slice o2 k2 c2, .int .i64 i2], boxMeta) := by rw [hE1.row _ (by first | omega | (simp only [next_more, next_put] at *; omega))]; simp only [c_seq, RUNA, RUNB, zAd, zMo, zDi, zSu, zMu, zEq, zBe, zLe, zTo, fillS, wantG, vBox, Value.cells, one, putAt]
 have c1' : σ1.row (σ.next + 2) = some ([.slice o3 k3 c3, .int .i64 i3], boxMeta) := by rw [hE1.row _ (by first | omega | (simp only [next_more, next_put] at *; omega))]; simp only [c_seq, RUNA, RUNB, zAd, zMo, zDi, zSu, zMu, zEq, zBe, zLe, zTo, fillS, wantG, vBox, Value.cells, one, putAt]
 have r1 : σ1.row (σ.next + 3) = some ([.slice none 0 0, .int .i64 0], boxMeta) := by rw [hE1.row _ (by first | omega | (simp only [next_more, next_put] at *; omega))]; simp only [c_seq, RUNA, RUNB, zAd, zMo, zDi, zSu, zMu, zEq, zBe, zLe, zTo, fillS, wantG, vBox, Value.cells, one, putAt]
 have e1 : EX σ σ1 := by repeat first | assumption | exact EXn.refl _ _ | refine EXn.more ?_ _ | refine EXn.put ?_ (by omega) _ | refine EX.trans ?_ (by assumption)
 have f1 := e1.fr hF
 simp only [YRUNA, YRUNB, zSh, bit, c_seq, RUNA, RUNB, zAd, zMo, zDi, zSu, zMu, zEq, zBe, zLe, zTo, fillS, wantG, vBox, Value.cells, one, putAt, TYA, a1, b1, c1']
 refine wpc_mono (safe_spec (hB.un ?_) (by first | omega | (simp only [next_more, next_put] at *; omega)) oB (by repeat first | assumption | refine Fr.more ?_ _ | refine Fr.put ?_ _ _)) ?_
 ·repeat first | assumption | exact UN.refl _ _ _ | refine UN.more ?_ _ | refine UN.put ?_ (by omega) _ | refine UN.ex (by assumption) ?_ (by first | omega | (simp only [next_more, next_put]; omega)) | refine UN.exb (by assumption) ?_ (by first | omega | (simp only [next_more, next_put]; omega)) (by omega)
 rintro r σ2 ⟨rfl, hE2⟩
 have n2 := hE2.next
 have a2 := (hE2.row σ.next (by omega)).trans a1
 have b2 := (hE2.row (σ.next + 1) (by omega)).trans b1
 have c2' := (hE2.row (σ.next + 2) (by omega)).trans c1'
 have r2 := (hE2.row (σ.next + 3) (by omega)).trans r1
 have e2 : EX σ σ2 := by repeat first | assumption | exact EXn.refl _ _ | refine EXn.more ?_ _ | refine EXn.put ?_ (by omega) _ | refine EX.trans ?_ (by assumption)
 have f2 := e2.fr hF
 simp only [YRUNA, YRUNB, zSh, bit, c_seq, RUNA, RUNB, zAd, zMo, zDi, zSu, zMu, zEq, zBe, zLe, zTo, fillS, wantG, vBox, Value.cells, one, putAt, TYA, a2, b2, c2']
 refine wpc_mono (safe_spec (hC.un ?_) (by first | omega | (simp only [next_more, next_put] at *; omega)) oC (by repeat first | assumption | refine Fr.more ?_ _ | refine Fr.put ?_ _ _)) ?_
 ·repeat first | assumption | exact UN.refl _ _ _ | refine UN.more ?_ _ | refine UN.put ?_ (by omega) _ | refine UN.ex (by assumption) ?_ (by first | omega | (simp only [next_more, next_put]; omega)) | refine UN.exb (by assumption) ?_ (by first | omega | (simp only [next_more, next_put]; omega)) (by omega)
 rintro r σ3 ⟨rfl, hE3⟩
 have n3 := hE3.next
 have a3 := (hE3.row σ.next (by omega)).trans a2
 have b3 := (hE3.row (σ.next + 1) (by omega)).trans b2
 have c3' := (hE3.row (σ.next + 2) (by omega)).trans c2'
 have r3 := (hE3.row (σ.next + 3) (by omega)).trans r2
 have e3 : EX σ σ3 := by repeat first | assumption | exact EXn.refl _ _ | refine EXn.more ?_ _ | refine EXn.put ?_ (by omega) _ | refine EX.trans ?_ (by assumption)
 have f3 := e3.fr hF
 simp only [YRUNA, YRUNB, zSh, bit, c_seq, RUNA, RUNB, zAd, zMo, zDi, zSu, zMu, zEq, zBe, zLe, zTo, fillS, wantG, vBox, Value.cells, one, putAt, TYA, a3, b3, c3']
 refine wpc_mono (ite_spec (ha.mono e3) (hb.mono e3) (hc.mono e3) f3) ?_
 rintro r σ4 ⟨hD, hE4⟩
 have n4 := hE4.next
 have a4 := (hE4.row σ.next (by omega)).trans a3
 have b4 := (hE4.row (σ.next + 1) (by omega)).trans b3
 have c4' := (hE4.row (σ.next + 2) (by omega)).trans c3'
 have r4 := (hE4.row (σ.next + 3) (by omega)).trans r3
 have e4 : EX σ σ4 := by repeat first | assumption | exact EXn.refl _ _ | refine EXn.more ?_ _ | refine EXn.put ?_ (by omega) _ | refine EX.trans ?_ (by assumption)
 obtain ⟨o, k, c, i, rfl⟩ := hD.open
 have q1 : ¬ σ.next = σ.next + 3 := by omega
 simp only [YRUNA, YRUNB, zSh, bit, c_seq, RUNA, RUNB, zAd, zMo, zDi, zSu, zMu, zEq, zBe, zLe, zTo, fillS, wantG, vBox, Value.cells, one, putAt, TYA, a4, b4, c4', r4, hr]
 refine ⟨IsD.weak (hD.un ?_) (by omega), ?_⟩
 ·repeat first | assumption | exact UN.refl _ _ _ | refine UN.more ?_ _ | refine UN.put ?_ (by omega) _ | refine UN.ex (by assumption) ?_ (by first | omega | (simp only [next_more, next_put]; omega)) | refine UN.exb (by assumption) ?_ (by first | omega | (simp only [next_more, next_put]; omega)) (by omega)
 ·repeat first | assumption | exact EXn.refl _ _ | refine EXn.more ?_ _ | refine EXn.put ?_ (by omega) _ | refine EX.trans ?_ (by assumption)
theorem Not_spec {σ : St} {a : Value} {φ : As → Bool} (ha : IsD 0 σ.next σ a φ) (hF : Fr σ) :
    wpc Tryz.prog 62 #[a] σ fun r σ' => IsD σ.next σ'.next σ' r (fun f => !φ f) ∧ EX σ σ' := by
 obtain ⟨o1, k1, c1, i1, rfl⟩ := ha.open
 refine body_go Tryz.func62 rfl ?_
 have hr := Tryz.results62
 simp only [c_seq, RUNA, RUNB, zAd, zMo, zDi, zSu, zMu, zEq, zBe, zLe, zTo, fillS, wantG, vBox, Value.cells, one, putAt, TYA, hr]
 refine d_go (ms := [0, 0, 2, 7, 15]) (order := [0, 1, 2, 3, 4]) (by kernel_rfl) (by kernel_rfl) (by kernel_rfl) (by kernel_rfl) ?_
 simp only [YRUNA, YRUNB, zSh, bit, c_seq, RUNA, RUNB, zAd, zMo, zDi, zSu, zMu, zEq, zBe, zLe, zTo, fillS, wantG, vBox, Value.cells, one, putAt, TYA]
 refine wpc_mono (Constant_is false _) ?_
 rintro r σ1 ⟨hD1, hE1⟩
 have n1 := hE1.next
 simp only [next_more, next_put] at n1 hD1
 have a1 : σ1.row σ.next = some ([.slice o1 k1 c1, .int .i64 i1], boxMeta) := by rw [hE1.row _ (by first | omega | (simp only [next_more, next_put] at *; omega))]; simp only [c_seq, RUNA, RUNB, zAd, zMo, zDi, zSu, zMu, zEq, zBe, zLe, zTo, fillS, wantG, vBox, Value.cells, one, putAt]
 have r1 : σ1.row (σ.next + 1) = some ([.slice none 0 0, .int .i64 0], boxMeta) := by rw [hE1.row _ (by first | omega | (simp only [next_more, next_put] at *; omega))]; simp only [c_seq, RUNA, RUNB, zAd, zMo, zDi, zSu, zMu, zEq, zBe, zLe, zTo, fillS, wantG, vBox, Value.cells, one, putAt]
 have e1 : EX σ σ1 := by repeat first | assumption | exact EXn.refl _ _ | refine EXn.more ?_ _ | refine EXn.put ?_ (by omega) _ | refine EX.trans ?_ (by assumption)
 simp only [YRUNA, YRUNB, zSh, bit, c_seq, RUNA, RUNB, zAd, zMo, zDi, zSu, zMu, zEq, zBe, zLe, zTo, fillS, wantG, vBox, Value.cells, one, putAt, TYA, a1]
 refine wpc_mono (Constant_is true _) ?_
 rintro r σ2 ⟨hD2, hE2⟩
 have n2 := hE2.next
 have a2 := (hE2.row σ.next (by omega)).trans a1
 have r2 := (hE2.row (σ.next + 1) (by omega)).trans r1
 have e2 : EX σ σ2 := by repeat first | assumption | exact EXn.refl _ _ | refine EXn.more ?_ _ | refine EXn.put ?_ (by omega) _ | refine EX.trans ?_ (by assumption)
 have f2 := e2.fr hF
 simp only [YRUNA, YRUNB, zSh, bit, c_seq, RUNA, RUNB, zAd, zMo, zDi, zSu, zMu, zEq, zBe, zLe, zTo, fillS, wantG, vBox, Value.cells, one, putAt, TYA, a2]
 refine wpc_mono (Ite_spec (ha.mono e2) ((hD1.zero (Nat.zero_le _) (Nat.le_refl _)).mono hE2) (hD2.zero (Nat.zero_le _) (Nat.le_refl _)) f2) ?_
 rintro r σ3 ⟨hD, hE3⟩
 have n3 := hE3.next
 have a3 := (hE3.row σ.next (by omega)).trans a2
 have r3 := (hE3.row (σ.next + 1) (by omega)).trans r2
 have e3 : EX σ σ3 := by repeat first | assumption | exact EXn.refl _ _ | refine EXn.more ?_ _ | refine EXn.put ?_ (by omega) _ | refine EX.trans ?_ (by assumption)
 obtain ⟨o, k, c, i, rfl⟩ := hD.open
 simp only [YRUNA, YRUNB, zSh, bit, c_seq, RUNA, RUNB, zAd, zMo, zDi, zSu, zMu, zEq, zBe, zLe, zTo, fillS, wantG, vBox, Value.cells, one, putAt, TYA, a3, r3, hr]
 refine ⟨IsD.congr (IsD.weak (hD.un ?_) (by omega)) (fun f => by cases φ f <;> rfl), ?_⟩
 ·repeat first | assumption | exact UN.refl _ _ _ | refine UN.more ?_ _ | refine UN.put ?_ (by omega) _ | refine UN.ex (by assumption) ?_ (by first | omega | (simp only [next_more, next_put]; omega)) | refine UN.exb (by assumption) ?_ (by first | omega | (simp only [next_more, next_put]; omega)) (by omega)
 ·repeat first | assumption | exact EXn.refl _ _ | refine EXn.more ?_ _ | refine EXn.put ?_ (by omega) _ | refine EX.trans ?_ (by assumption)
end Go.Proofs.Q

namespace Go.Proofs.Q
open Go.AI
set_option maxRecDepth 20000
def rdMeta (z : Nat) : Mta := { wr := false, tip := false, z, grp := none }
def nilT : Tr Nat → Bool
 | .nil => true
 | _ => false
theorem row_of_get {σ : St} {id z : Nat} {cs : List Value} (h : σ.get id = some (.cells cs (rdMeta z))) : σ.row id = some (cs, rdMeta z) := by
 unfold St.row; rw [h]; rfl
def ArgS (id n : Nat) (v : Value) : Prop := ∃ o c, v = .slice o n c ∧ (0 < n → o = some ⟨id, 0, none⟩) ∧ (n = 0 → c = 0)
end Go.Proofs.Q
namespace Go.Proofs.Q
open Go.AI
set_option maxRecDepth 20000
structure BX (p : Nat) (v w : Value) (φ : As → Bool) (τ : St) : Prop where
 row : τ.row p = some ([v, w], boxMeta)
 lt : p < τ.next
 is : IsD 0 τ.next τ (.agg #[v, w]) φ
theorem BX.mono {p : Nat} {v w : Value} {φ : As → Bool} {σ τ : St} (h : BX p v w φ σ) (e : EX σ τ) : BX p v w φ τ := ⟨(e.row p h.lt).trans h.row, Nat.lt_of_lt_of_le h.lt e.next, h.is.mono e⟩
theorem Same_is {σ : St} {a b : Value} {φ ψ : As → Bool} (ha : IsD 0 σ.next σ a φ) (hb : IsD 0 σ.next σ b ψ) (h : ∀ f, φ f = ψ f) : wpc Tryz.prog 10 #[a, b] σ fun r σ' => r = .bool true ∧ EX σ σ' := by
 obtain ⟨T, hT, oT, eT⟩ := ha
 obtain ⟨U, hU, oU, eU⟩ := hb
 have : T = U := Dt.uniq oT oU (fun f => by rw [eT, eU, h])
 subst this
 have := cd_len oT (by omega)
 refine wpc_mono (Same_spec (hT.dv (Nat.le_refl _)) (hU.dv (Nat.le_refl _)) (by omega)) ?_
 rintro r σ' ⟨rfl, hE⟩
 exact ⟨by simp, hE⟩
theorem IsD.ex {lo : Nat} {σ τ : St} {v : Value} {φ : As → Bool} (h : IsD lo σ.next σ v φ) (e : EX σ τ) : IsD lo τ.next τ v φ := (h.un ⟨fun id _ hi => e.row id hi⟩).hi e.next
end Go.Proofs.Q
