import Derived.Test.YtmjddjjcnhckgaaGreatDoorKq
import Derived.Test.YtmjddjjcnhckgaaGreatDoorKs
import Derived.Test.YtmjddjjcnhckgaaGreatDoorKu
set_option linter.unusedVariables false
set_option linter.unusedSimpArgs false
set_option linter.constructorNameAsVariable false
open Nat renaming reduceAdd → zAd, reduceMod → zMo, reduceDiv → zDi, reduceSub → zSu, reduceMul → zMu, reduceEqDiff → zEq, reduceBEq → zBe, reduceLeDiff → zLe, reduceShiftRight → zSh
open Int renaming reduceToNat → zTo
namespace Go.Proofs.Q
open Go.AI
set_option maxRecDepth 4000
theorem Variable_is (i : Nat) (hi : i < 10) (σ : St) (hF : Fr σ) : wpc Tryz.prog 15 #[.int .i64 i] σ fun r σ' => ∃ d, r = .tuple #[d, .int .i64 0] ∧ IsD σ.next σ'.next σ' d (fun f => f i) ∧ EX σ σ' := by
 refine wpc_mono (Variable_in i (by omega) (by omega) σ hF) ?_
 rintro r σ' ⟨d, h1, h2, hE⟩
 rw [varD_cd] at h2
 refine ⟨d, h1, ⟨_, h2.i, ⟨by omega, hi, by simp, trivial, trivial⟩, fun f => ?_⟩, hE⟩
 simp only [Dt.ev]; cases f i <;> rfl
def flatV : List (Value × Value) → List Value
 | [] => []
 | x :: l => x.1 :: x.2 :: flatV l
theorem flatV_append (l k : List (Value × Value)) : flatV (l ++ k) = flatV l ++ flatV k := by
 induction l with
 | nil => rfl
 | cons x l ih => simp only [List.cons_append, flatV, ih]
def DO (σ : St) (v : Value) (l : List (Value × Value)) (s : Nat) : Prop := (v = .slice none 0 0 ∧ l = []) ∨ (l ≠ [] ∧ Own σ s 2 v l.length (flatV l))
theorem DO.mono {s : Nat} {σ τ : St} {v : Value} {l : List (Value × Value)} (h : DO σ v l s) (e : EX σ τ) : DO τ v l s := by
 rcases h with h | ⟨h0, h1⟩
 ·exact Or.inl h
 ·have hs : s < σ.next := by obtain ⟨k, m, _, h, _⟩ := h1; exact h
  exact Or.inr ⟨h0, h1.mono e.next (e.row s hs)⟩
theorem DO.put {s k : Nat} {σ : St} {v : Value} {l : List (Value × Value)} (h : DO σ v l s) (hk : s ≠ k) (ob : AObj) : DO (σ.put k ob) v l s := by
 rcases h with h | ⟨h0, h1⟩
 ·exact Or.inl h
 ·exact Or.inr ⟨h0, h1.mono (Nat.le_refl _) (row_put_ne hk)⟩
theorem DO.open {s : Nat} {σ : St} {v : Value} {l : List (Value × Value)} (h : DO σ v l s) (h0 : l ≠ []) : ∃ k m, v = .slice (some ⟨s, 0, none⟩) l.length k ∧ s < σ.next ∧ σ.row s = some (flatV l, m) := by
 rcases h with ⟨_, e⟩ | ⟨_, k, m, h1, h2, h3, _⟩
 ·exact absurd e h0
 ·exact ⟨k, m, h1, h2, h3⟩
theorem bsD1 (id : Nat) (a : Option Addr) (n c : Nat) (r : Int) : vBuildS Tryz.prog 79 1 #[(0, .agg #[.slice a n c, .int .i64 r])] id = some (.slice (some ⟨id, 0, none⟩) 1 1, .cells [.slice a n c, .int .i64 r] (rowMeta 2)) := by kernel_rfl
theorem DO.app {s id id' : Nat} {σ : St} {v : Value} {l : List (Value × Value)} {x : Value × Value} {m : Mta} {ops : Array Operand} (h : DO σ v l s) (hid : σ.row id = some ([x.1, x.2], m)) (hv : σ.ver id' = 0) (h1 : id' < σ.next) (hne : s ≠ id') (hl : l.length ≤ 10000) (hx : (flatV [x]).all one = true) {K : Value × St → Prop}
    (k : ∀ r σ', DO σ' r (l ++ [x]) id' → But s id' σ σ' → K (r, σ')) : ex1 (aappend Tryz.prog σ id' ⟨.builtin .append, ops, #[79, 79]⟩ v (.slice (some ⟨id, 0, none⟩) 1 1)) K := by
 have hs : aSource σ 2 (.slice (some ⟨id, 0, none⟩) 1 1) = some (1, flatV [x]) := by
  simp only [aSource, hid]; rfl
 rcases h with ⟨rfl, rfl⟩ | ⟨h0, hO⟩
 ·obtain ⟨r, σ', e1, e2, e3⟩ := app_nil (P := Tryz.prog) (σ := σ) (aops := ops) (t := 79) (t1 := 79) (id' := id') (y := .slice (some ⟨id, 0, none⟩) 1 1) (x := 1) (xs := flatV [x]) Tryz.underlying79 Tryz.underlying79 if41 rfl hs hx (by omega) (by omega) rfl (by omega) hv h1 (by omega) rfl
  exact ⟨_, e1, k r σ' (Or.inr ⟨by simp, e2⟩) ⟨e3.next, e3.vers, fun j _ h => e3.get j h h, fun j _ h => e3.row j h h⟩⟩
 ·obtain ⟨r, σ', e1, e2, e3⟩ := app_own (P := Tryz.prog) (aops := ops) (t := 79) (t1 := 79) (id' := id') (y := .slice (some ⟨id, 0, none⟩) 1 1) (x := 1) (xs := flatV [x]) hO Tryz.underlying79 Tryz.underlying79 if41 rfl hs hx (by omega) (by omega) rfl (by omega) hv h1 hne (by omega) rfl
  refine ⟨_, e1, k r σ' (Or.inr ⟨by simp, ?_⟩) e3⟩
  rw [flatV_append, List.length_append]; exact e2
def DLs (σ : St) (s : Nat) : List (Value × Value) → List (As → Bool) → Prop
 | [], [] => True
 | x :: l, φ :: k => (∃ lo hi, IsD lo hi σ (.agg #[x.1, x.2]) φ ∧ hi ≤ σ.next ∧ (s < lo ∨ hi ≤ s)) ∧ DLs σ s l k
 | _, _ => False
theorem DLs.step {σ τ : St} {s s' : Nat} (hn : σ.next ≤ τ.next) (e : ∀ lo hi, hi ≤ σ.next → (s < lo ∨ hi ≤ s) → UN lo hi σ τ) (hs : σ.next ≤ s') : ∀ {l : List (Value × Value)} {k : List (As → Bool)}, DLs σ s l k → DLs τ s' l k
 | [], [], _ => trivial
 | _ :: _, _ :: _, h => by
  obtain ⟨⟨lo, hi, h1, h2, h3⟩, h4⟩ := h
  exact ⟨⟨lo, hi, h1.un (e lo hi h2 h3), by omega, Or.inr (by omega)⟩, DLs.step hn e hs h4⟩
 | [], _ :: _, h => h.elim
 | _ :: _, [], h => h.elim
theorem DLs.keep {σ τ : St} {s : Nat} (hn : σ.next ≤ τ.next) (e : ∀ lo hi, hi ≤ σ.next → UN lo hi σ τ) : ∀ {l : List (Value × Value)} {k : List (As → Bool)}, DLs σ s l k → DLs τ s l k
 | [], [], _ => trivial
 | _ :: _, _ :: _, h => by
  obtain ⟨⟨lo, hi, h1, h2, h3⟩, h4⟩ := h
  exact ⟨⟨lo, hi, h1.un (e lo hi h2), by omega, h3⟩, DLs.keep hn e h4⟩
 | [], _ :: _, h => h.elim
 | _ :: _, [], h => h.elim
theorem DLs.snoc {σ : St} {s : Nat} {x : Value × Value} {φ : As → Bool} (hx : ∃ lo hi, IsD lo hi σ (.agg #[x.1, x.2]) φ ∧ hi ≤ σ.next ∧ (s < lo ∨ hi ≤ s)) : ∀ {l : List (Value × Value)} {k : List (As → Bool)}, DLs σ s l k → DLs σ s (l ++ [x]) (k ++ [φ])
 | [], [], _ => ⟨hx, trivial⟩
 | _ :: _, _ :: _, h => ⟨h.1, h.2.snoc hx⟩
 | [], _ :: _, h => h.elim
 | _ :: _, [], h => h.elim
theorem DLs.hd {σ : St} {s : Nat} {x : Value × Value} {l : List (Value × Value)} {φ : As → Bool} {k : List (As → Bool)} (h : DLs σ s (x :: l) (φ :: k)) : IsD 0 σ.next σ (.agg #[x.1, x.2]) φ := by
 obtain ⟨⟨lo, hi, h1, h2, h3⟩, _⟩ := h
 exact (h1.weak (Nat.zero_le _)).hi h2
def tvs (vs : List Sy) (l : List PT) : List (As → Bool) := l.map fun x f => trT vs f x
theorem trL_map (vs : List Sy) (f : As) : ∀ l : List PT, trL vs f l = l.map (trT vs f)
 | [] => rfl
 | t :: l => by simp only [trL, List.map_cons, trL_map vs f l]
def OfS (vs : List Sy) (t : PT) : Prop := goT t → fmT vs t = 0 → ∀ (σ : St) (v w : Value), TV σ v t → YL σ w vs → Fr σ → wpc Tryz.prog 25 #[v, w] σ fun r σ' => IsD σ.next σ'.next σ' r (fun f => trT vs f t) ∧ EX σ σ'
set_option maxHeartbeats 4000000 in
theorem of_step {vs : List Sy} (hvs : vs.length ≤ 10) (t : PT) (ih : ∀ x ∈ t.l, OfS vs x) : OfS vs t := by
 intro hg hf σ v w hv hw hF
 have hv0 := hv
 have hw0 := hw
 obtain ⟨hk, ho, h3, hgl⟩ := hg.at
 obtain ⟨a, c, rfl, hA⟩ := hv.al
 obtain ⟨b, d, rfl, -⟩ := hw
 refine body_go Tryz.func25 rfl ?_
 have hr := Tryz.results25
 rcases hk with h1 | h1 | h1
 ·have g1 : (t.k == (1 : Int)) = true := by simp [h1]
  simp only [c_seq, RUNA, RUNB, zAd, zMo, zDi, zSu, zMu, zEq, zBe, zLe, zTo, fillS, wantG, vBox, Value.cells, one, putAt, TYA, hr, g1]
  refine wpc_mono (position_spec (t.p, t.s) (hw0.mono ?_) (by omega)) ?_
  ·repeat first | assumption | exact EXn.refl _ _ | refine EXn.more ?_ _ | refine EXn.put ?_ (by omega) _ | refine EX.trans ?_ (by assumption)
  rintro r σ1 ⟨rfl, hE1⟩
  have n1 := hE1.next
  try simp only [next_more, next_put] at n1
  have hi := idxY_lt (t.p, t.s) vs 0
  rw [fmT_eq, if_pos h1] at hf
  have hi2 : 0 ≤ idxY (t.p, t.s) vs 0 := by
   split at hf
   ·omega
   ·omega
  obtain ⟨j, hj⟩ : ∃ j : Nat, idxY (t.p, t.s) vs 0 = j := ⟨_, (Int.toNat_of_nonneg hi2).symm⟩
  have hT : ∀ f, trT vs f t = f j := fun f => by rw [trT_eq, if_pos h1, hj, Int.toNat_natCast]
  have x1 : σ1.row (σ.next + 1) = some ([.slice none 0 0, .int .i64 0], boxMeta) := by rw [hE1.row _ (by first | omega | (simp only [next_more, next_put] at *; omega))]; simp only [c_seq, RUNA, RUNB, zAd, zMo, zDi, zSu, zMu, zEq, zBe, zLe, zTo, fillS, wantG, vBox, Value.cells, one, putAt]
  have e1 : EX σ σ1 := by refine EX.trans ?_ hE1; repeat first | assumption | exact EXn.refl _ _ | refine EXn.more ?_ _ | refine EXn.put ?_ (by omega) _ | refine EX.trans ?_ (by assumption)
  have f1 := e1.fr hF
  simp only [c_seq, RUNA, RUNB, zAd, zMo, zDi, zSu, zMu, zEq, zBe, zLe, zTo, fillS, wantG, vBox, Value.cells, one, putAt, TYA, hr, hj]
  refine wpc_mono (Variable_is j (by omega) _ (by repeat first | assumption | refine Fr.more ?_ _ | refine Fr.put ?_ _ _)) ?_
  rintro r σ2 ⟨dv, rfl, hD, hE2⟩
  have n2 := hE2.next
  try simp only [next_more, next_put] at n2
  have x2 := (hE2.row (σ.next + 1) (by first | omega | (simp only [next_more, next_put] at *; omega))).trans x1
  have e2 : EX σ σ2 := by refine EX.trans ?_ hE2; repeat first | assumption | exact EXn.refl _ _ | refine EXn.more ?_ _ | refine EXn.put ?_ (by omega) _ | refine EX.trans ?_ (by assumption)
  obtain ⟨o, k, c', i, rfl⟩ := hD.open
  have q1 : ∀ k, ¬ σ.next + 1 = σ1.next + k := fun k => by omega
  simp only [c_seq, RUNA, RUNB, zAd, zMo, zDi, zSu, zMu, zEq, zBe, zLe, zTo, fillS, wantG, vBox, Value.cells, one, putAt, TYA, hr, x2, q1]
  refine ⟨IsD.congr (IsD.hi (IsD.weak (IsD.un hD ?_) (by first | omega | (simp only [next_more, next_put] at *; omega))) ?_) (fun f => (hT f).symm), ?_⟩
  ·repeat first | assumption | exact UN.refl _ _ _ | refine UN.more ?_ _ | refine UN.put ?_ (by omega) _ | refine UN.ex (by assumption) ?_ (by first | omega | (simp only [next_more, next_put]; omega)) | refine UN.exb (by assumption) ?_ (by first | omega | (simp only [next_more, next_put]; omega)) (by omega)
  ·first | omega | (simp only [next_more, next_put] at *; omega)
  ·repeat first | assumption | exact EXn.refl _ _ | refine EXn.more ?_ _ | refine EXn.put ?_ (by omega) _ | refine EX.trans ?_ (by assumption)
 ·have g1 : (t.k == (1 : Int)) = false := by simp [h1]
  have g2 : (t.k == (2 : Int)) = true := by simp [h1]
  have hT : ∀ f, trT vs f t = !nilB t.o := fun f => by rw [trT_eq, if_neg (by omega), if_pos h1]
  simp only [c_seq, RUNA, RUNB, zAd, zMo, zDi, zSu, zMu, zEq, zBe, zLe, zTo, fillS, wantG, vBox, Value.cells, one, putAt, TYA, hr, g1, g2]
  refine wpc_mono (IsNil_spec _ t.o) ?_
  rintro r σ1 ⟨rfl, hE1⟩
  have n1 := hE1.next
  try simp only [next_more, next_put] at n1
  have x1 : σ1.row (σ.next + 1) = some ([.slice none 0 0, .int .i64 0], boxMeta) := by rw [hE1.row _ (by first | omega | (simp only [next_more, next_put] at *; omega))]; simp only [c_seq, RUNA, RUNB, zAd, zMo, zDi, zSu, zMu, zEq, zBe, zLe, zTo, fillS, wantG, vBox, Value.cells, one, putAt]
  have e1 : EX σ σ1 := by refine EX.trans ?_ hE1; repeat first | assumption | exact EXn.refl _ _ | refine EXn.more ?_ _ | refine EXn.put ?_ (by omega) _ | refine EX.trans ?_ (by assumption)
  simp only [c_seq, RUNA, RUNB, zAd, zMo, zDi, zSu, zMu, zEq, zBe, zLe, zTo, fillS, wantG, vBox, Value.cells, one, putAt, TYA, hr]
  refine wpc_mono (Constant_is (!nilB t.o) _) ?_
  rintro r σ2 ⟨hD, hE2⟩
  have n2 := hE2.next
  try simp only [next_more, next_put] at n2
  have x2 := (hE2.row (σ.next + 1) (by first | omega | (simp only [next_more, next_put] at *; omega))).trans x1
  have e2 : EX σ σ2 := by refine EX.trans ?_ hE2; repeat first | assumption | exact EXn.refl _ _ | refine EXn.more ?_ _ | refine EXn.put ?_ (by omega) _ | refine EX.trans ?_ (by assumption)
  obtain ⟨o, k, c', i, rfl⟩ := hD.open
  simp only [c_seq, RUNA, RUNB, zAd, zMo, zDi, zSu, zMu, zEq, zBe, zLe, zTo, fillS, wantG, vBox, Value.cells, one, putAt, TYA, hr, x2]
  refine ⟨IsD.congr (IsD.hi (IsD.weak (IsD.un hD ?_) (by first | omega | (simp only [next_more, next_put] at *; omega))) ?_) (fun f => (hT f).symm), ?_⟩
  ·repeat first | assumption | exact UN.refl _ _ _ | refine UN.more ?_ _ | refine UN.put ?_ (by omega) _ | refine UN.ex (by assumption) ?_ (by first | omega | (simp only [next_more, next_put]; omega)) | refine UN.exb (by assumption) ?_ (by first | omega | (simp only [next_more, next_put]; omega)) (by omega)
  ·first | omega | (simp only [next_more, next_put] at *; omega)
  ·repeat first | assumption | exact EXn.refl _ _ | refine EXn.more ?_ _ | refine EXn.put ?_ (by omega) _ | refine EX.trans ?_ (by assumption)
 ·have g1 : (t.k == (1 : Int)) = false := by simp [h1]
  have g2 : (t.k == (2 : Int)) = false := by simp [h1]
  obtain ⟨hfl, hpb, hsh⟩ := fm_call hf h1
  have hT : ∀ f, trT vs f t = trC t.s (t.l.map (trT vs f)) := fun f => by rw [trT_eq, if_neg (by omega), if_neg (by omega), trL_map]
  have hn0 : 0 < t.l.length := by omega
  have ne : t.l ≠ [] := by intro e; rw [e] at hn0; simp at hn0
  obtain ⟨a0, c0, e', k2⟩ := hA
  cases e'
  obtain ⟨id, off, row, m, rfl, q2, q3, q4⟩ := k2 ne
  simp only [c_seq, RUNA, RUNB, zAd, zMo, zDi, zSu, zMu, zEq, zBe, zLe, zTo, fillS, wantG, vBox, Value.cells, one, putAt, TYA, hr, g1, g2]
  refine loop_go (fun m S τ => S.at 1 = .slice b vs.length d ∧ S.at 2 = .pointer (some ⟨σ.next, 0, none⟩) ∧ S.at 4 = .pointer (some ⟨σ.next + 1, 0, none⟩) ∧ S.at 31 = .slice (some ⟨id, off, none⟩) t.l.length c ∧ S.at 32 = .int .i64 t.l.length ∧ EX σ τ ∧ Fr τ ∧ σ.next + 2 ≤ τ.next ∧
   τ.row σ.next = some ([.int .i64 t.k, .string t.p, .string t.s, .int .i64 t.o.k, .string t.o.n, .string t.o.d, .string t.o.p, .string t.o.s, .string t.o.t, .slice none 0 0, .slice (some ⟨id, off, none⟩) t.l.length c], boxMeta) ∧ τ.row (σ.next + 1) = some ([.slice none 0 0, .int .i64 0], boxMeta) ∧
   ∃ i : Nat, S.at 33 = .int .i64 i ∧ i ≤ t.l.length ∧ m = t.l.length - i ∧ ∃ (s : Nat) (ds : List (Value × Value)), ds.length = i ∧ DO τ (S.at 7) ds s ∧ σ.next + 2 ≤ s ∧ s ≤ τ.next ∧ DLs τ s ds (tvs vs (t.l.take i))) t.l.length ?_ ?_
  ·simp only [c_seq, RUNA, RUNB, zAd, zMo, zDi, zSu, zMu, zEq, zBe, zLe, zTo, fillS, wantG, vBox, Value.cells, one, putAt]
   refine ⟨?_, by repeat first | assumption | refine Fr.more ?_ _ | refine Fr.put ?_ _ _, by first | omega | (simp only [next_more, next_put] at *; omega), 0, rfl, by omega, by omega, σ.next + 2, [], rfl, Or.inl ⟨rfl, rfl⟩, by omega, by first | omega | (simp only [next_more, next_put] at *; omega), trivial⟩
   repeat first | assumption | exact EXn.refl _ _ | refine EXn.more ?_ _ | refine EXn.put ?_ (by omega) _ | refine EX.trans ?_ (by assumption)
  rintro _ S τ ⟨s1, s2, s4, s31, s32, hE, hF', hx, r0, x0, i, s33, hi, rfl, s, ds, hdl, hO, hs1, hs2, hD⟩
  have nn := hE.next
  by_cases hlt : i < t.l.length
  ·have hd : decide ((i : Int) < (t.l.length : Int)) = true := by simp; omega
   have ht : t.l[i]? = some (t.l[i]'hlt) := List.getElem?_eq_getElem hlt
   generalize t.l[i]'hlt = x at ht
   have hm : x ∈ t.l := List.mem_of_getElem? ht
   have g3' := (hE.row id q2).trans q3
   have z2 : (0 : Int) ≤ (i : Int) := by omega
   have z3 : (i : Int) < (t.l.length : Int) := by omega
   obtain ⟨a1, c1, hc, hTx⟩ := row_cutT q4 ht
   have q1 : ∀ k, ¬ id = τ.next + k := fun k => by omega
   have hw : IntKind.i64.wrap ((i : Int) + 1) = ((i + 1 : Nat) : Int) := by rw [wrap64 (by omega) (by omega)]; rfl
   simp only [c_seq, RUNA, RUNB, zAd, zMo, zDi, zSu, zMu, zEq, zBe, zLe, zTo, fillS, wantG, vBox, Value.cells, one, putAt, TYA, s1, s2, s4, s31, s32, s33, hd, ia32 z2 z3, Int.toNat_natCast, g3', hc, q1]
   refine wpc_mono (ih x hm (goL_mem hgl hm) (fm_mem hfl hm) _ _ _ (hTx.mono ?_) (hw0.mono ?_) (by repeat first | assumption | refine Fr.more ?_ _ | refine Fr.put ?_ _ _)) ?_
   ·repeat first | assumption | exact EXn.refl _ _ | refine EXn.more ?_ _ | refine EXn.put ?_ (by omega) _ | refine EX.trans ?_ (by assumption)
   ·repeat first | assumption | exact EXn.refl _ _ | refine EXn.more ?_ _ | refine EXn.put ?_ (by omega) _ | refine EX.trans ?_ (by assumption)
   rintro r σ2 ⟨hDx, hE2⟩
   have n2 := hE2.next
   try simp only [next_more, next_put] at n2
   have e2 : EX τ σ2 := by refine EX.trans ?_ hE2; repeat first | assumption | exact EXn.refl _ _ | refine EXn.more ?_ _ | refine EXn.put ?_ (by omega) _ | refine EX.trans ?_ (by assumption)
   have r2 := (e2.row σ.next (by omega)).trans r0
   have x2 := (e2.row (σ.next + 1) (by omega)).trans x0
   have ex2 : EX σ σ2 := EX.trans hE e2
   have f2 := ex2.fr hF
   obtain ⟨ox, kx, cx, ix, rfl⟩ := hDx.open
   obtain ⟨ov, hov⟩ : ∃ ov, S.at 7 = ov := ⟨_, rfl⟩
   rw [hov] at hO
   simp only [c_seq, RUNA, RUNB, zAd, zMo, zDi, zSu, zMu, zEq, zBe, zLe, zTo, fillS, wantG, vBox, Value.cells, one, putAt, TYA, s1, s2, s4, s31, s32, s33, hov, bsD1]
   refine DO.app (s := s) (id := τ.next + 1 + 4 + 4) (id' := τ.next + 1 + 4 + 5) (l := ds) (x := (.slice ox kx cx, .int .i64 ix)) (m := rowMeta 2) ?_ (by simp only [c_seq, RUNA, RUNB, zAd, zMo, zDi, zSu, zMu, zEq, zBe, zLe, zTo, fillS, wantG, vBox, Value.cells, one, putAt]) ?_ (by first | omega | (simp only [next_more, next_put] at *; omega)) (by omega) (by omega) rfl ?_
   ·exact (hO.mono e2).put (by omega) _
   ·rw [ver_put, hE2.ver _ (by first | omega | (simp only [next_more, next_put] at *; omega))]; exact hF' _ (by omega)
   intro r σ3 hO3 hB
   have bn := hB.next
   simp only [next_put, next_more] at bn
   have ex3 : EX σ σ3 := EXn.trans (by repeat first | assumption | exact EXn.refl _ _ | refine EXn.more ?_ _ | refine EXn.put ?_ (by omega) _ | refine EX.trans ?_ (by assumption)) (hB.exn (n := σ.next) (by omega) (by omega))
   have f3 := ex3.fr hF
   have r3 := ((hB.row σ.next (by omega) (by omega)).trans (row_put_ne (by omega))).trans r2
   have x3 := ((hB.row (σ.next + 1) (by omega) (by omega)).trans (row_put_ne (by omega))).trans x2
   have htk : t.l.take (i + 1) = t.l.take i ++ [x] := by rw [List.take_add_one, ht]; rfl
   have hD3 : DLs σ3 (τ.next + 1 + 4 + 5) (ds ++ [(.slice ox kx cx, .int .i64 ix)]) (tvs vs (t.l.take (i + 1))) := by
    rw [htk, tvs, List.map_append]
    refine DLs.snoc ⟨_, _, hDx.un ⟨fun j hj1 hj2 => ?_⟩, by omega, Or.inl (by first | omega | (simp only [next_more, next_put] at *; omega))⟩ (hD.step (by omega) (fun lo hi h1 h2 => ⟨fun j hj1 hj2 => ?_⟩) (by omega))
    ·simp only [next_more, next_put] at hj1
     rw [hB.row j (by omega) (by omega), row_put_ne (by omega)]
    ·rw [hB.row j (by omega) (by omega), row_put_ne (by omega)]; exact e2.row j (by omega)
   have hD4 : DLs (σ3.more 2) (τ.next + 1 + 4 + 5) (ds ++ [((Value.slice ox kx cx, Value.int .i64 ix) : Value × Value)]) (tvs vs (t.l.take (i + 1))) := DLs.keep (σ := σ3) (τ := σ3.more 2) (by simp only [next_more]; omega) (fun lo hi h1 => ⟨fun j hj1 hj2 => row_more⟩) hD3
   simp only [c_seq, RUNA, RUNB, zAd, zMo, zDi, zSu, zMu, zEq, zBe, zLe, zTo, fillS, wantG, vBox, Value.cells, one, putAt, TYA, s1, s2, s4, s31, s32, s33, hw]
   refine ⟨t.l.length - (i + 1), by omega, ?_, by repeat first | assumption | refine Fr.more ?_ _ | refine Fr.put ?_ _ _, by first | omega | (simp only [next_more, next_put] at *; omega), r3, x3, i + 1, rfl, by omega, rfl, τ.next + 1 + 4 + 5, ds ++ [((Value.slice ox kx cx, Value.int .i64 ix) : Value × Value)], by simp [hdl], hO3.mono ?_, by omega, by first | omega | (simp only [next_more, next_put] at *; omega), hD4⟩
   ·repeat first | assumption | exact EXn.refl _ _ | refine EXn.more ?_ _ | refine EXn.put ?_ (by omega) _ | refine EX.trans ?_ (by assumption)
   ·repeat first | assumption | exact EXn.refl _ _ | refine EXn.more ?_ _ | refine EXn.put ?_ (by omega) _ | refine EX.trans ?_ (by assumption)
  ·have hd : decide ((i : Int) < (t.l.length : Int)) = false := by simp; omega
   obtain rfl : i = t.l.length := by omega
   rw [List.take_length] at hD
   obtain ⟨ov, hov⟩ : ∃ ov, S.at 7 = ov := ⟨_, rfl⟩
   rw [hov] at hO
   obtain ⟨ck, mk, rfl, hsn, hrow⟩ := hO.open (by intro e; rw [e] at hdl; simp at hdl; omega)
   have q1 : ∀ k, ¬ σ.next = τ.next + k := fun k => by omega
   have y0 : (0 : Int) ≤ 0 := by omega
   have y1 : (0 : Int) ≤ 1 := by omega
   have y2 : (0 : Int) ≤ 2 := by omega
   rcases hsh with ⟨hl, hs⟩ | ⟨hl, hs⟩ | ⟨hl, hs⟩
   ·obtain ⟨p0, hL⟩ : ∃ p0, t.l = [p0] := by
     match t.l, hl with
     | [p0], _ => exact ⟨p0, rfl⟩
    obtain ⟨d0, rfl⟩ : ∃ d0, ds = [d0] := by
     have hl2 := hdl.trans hl
     match ds, hl2 with
     | [d0], _ => exact ⟨d0, rfl⟩
    rw [hL] at hD
    simp only [tvs, List.map_cons, List.map_nil] at hD
    simp only [List.length_cons, List.length_nil, zAd] at hov
    simp only [flatV] at hrow
    have D0 := DLs.hd hD
    have z0 : (0 : Int) < ((1 : Nat) : Int) := by omega
    have v_if : decide (t.s = ⟨#[105, 102]⟩) = false := by rw [hs]; decide
    have v_not : decide (t.s = ⟨#[110, 111, 116]⟩) = true := by rw [hs]; decide
    simp only [c_seq, RUNA, RUNB, zAd, zMo, zDi, zSu, zMu, zEq, zBe, zLe, zTo, fillS, wantG, vBox, Value.cells, one, putAt, TYA, s1, s2, s4, s31, s32, s33, hov, hd, r0, hr, eqS, v_if, v_not, ia79 y0 z0, hrow, Nat.mul_zero, Nat.zero_mul, Nat.add_zero]
    refine wpc_mono (Not_spec (D0.mono ?_) (by repeat first | assumption | refine Fr.more ?_ _ | refine Fr.put ?_ _ _)) ?_
    ·repeat first | assumption | exact EXn.refl _ _ | refine EXn.more ?_ _ | refine EXn.put ?_ (by omega) _ | refine EX.trans ?_ (by assumption)
    rintro r σ4 ⟨hDr, hE4⟩
    have n4 := hE4.next
    try simp only [next_more, next_put] at n4
    try simp only [next_more, next_put] at hDr
    have x4 : σ4.row (σ.next + 1) = some ([.slice none 0 0, .int .i64 0], boxMeta) := (hE4.row (σ.next + 1) (by first | omega | (simp only [next_more, next_put] at *; omega))).trans x0
    obtain ⟨o, k, c', j, rfl⟩ := hDr.open
    simp only [YRUNA, YRUNB, zSh, bit, c_seq, RUNA, RUNB, zAd, zMo, zDi, zSu, zMu, zEq, zBe, zLe, zTo, fillS, wantG, vBox, Value.cells, one, putAt, TYA, s4, x4, hr]
    refine ⟨IsD.congr (IsD.hi (IsD.weak (IsD.un hDr ?_) (by first | omega | (simp only [next_more, next_put] at *; omega))) ?_) (fun f => ?_), ?_⟩
    ·repeat first | assumption | exact UN.refl _ _ _ | refine UN.more ?_ _ | refine UN.put ?_ (by omega) _ | refine UN.ex (by assumption) ?_ (by first | omega | (simp only [next_more, next_put]; omega)) | refine UN.exb (by assumption) ?_ (by first | omega | (simp only [next_more, next_put]; omega)) (by omega)
    ·first | omega | (simp only [next_more, next_put] at *; omega)
    ·rw [hT f, hL]
     simp only [List.map_cons, List.map_nil, trC]
    ·repeat first | assumption | exact EXn.refl _ _ | refine EXn.more ?_ _ | refine EXn.put ?_ (by omega) _ | refine EX.trans ?_ (by assumption)
   ·obtain ⟨p0, p1, hL⟩ : ∃ p0 p1, t.l = [p0, p1] := by
     match t.l, hl with
     | [p0, p1], _ => exact ⟨p0, p1, rfl⟩
    obtain ⟨d0, d1, rfl⟩ : ∃ d0 d1, ds = [d0, d1] := by
     have hl2 := hdl.trans hl
     match ds, hl2 with
     | [d0, d1], _ => exact ⟨d0, d1, rfl⟩
    rw [hL] at hD
    simp only [tvs, List.map_cons, List.map_nil] at hD
    simp only [List.length_cons, List.length_nil, zAd] at hov
    simp only [flatV] at hrow
    have D0 := DLs.hd hD
    have z0 : (0 : Int) < ((2 : Nat) : Int) := by omega
    have D1 := DLs.hd hD.2
    have z1 : (1 : Int) < ((2 : Nat) : Int) := by omega
    rcases hs with hs | hs
    ·skip
     have v_if : decide (t.s = ⟨#[105, 102]⟩) = false := by rw [hs]; decide
     have v_not : decide (t.s = ⟨#[110, 111, 116]⟩) = false := by rw [hs]; decide
     have v_implies : decide (t.s = ⟨#[105, 109, 112, 108, 105, 101, 115]⟩) = true := by rw [hs]; decide
     simp only [c_seq, RUNA, RUNB, zAd, zMo, zDi, zSu, zMu, zEq, zBe, zLe, zTo, fillS, wantG, vBox, Value.cells, one, putAt, TYA, s1, s2, s4, s31, s32, s33, hov, hd, r0, hr, eqS, v_if, v_not, v_implies]
     refine d_go (ms := [0, 1, 3, 0, 8, 24, 0, 127, 255]) (order := [0, 1, 2, 3, 4, 5, 6, 7, 8]) (by kernel_rfl) (by kernel_rfl) (by kernel_rfl) (by kernel_rfl) ?_
     simp only [YRUNA, YRUNB, zSh, bit, c_seq, RUNA, RUNB, zAd, zMo, zDi, zSu, zMu, zEq, zBe, zLe, zTo, fillS, wantG, vBox, Value.cells, one, putAt, TYA, hov, ia79 y0 z0, ia79 y1 z1, hrow, Nat.mul_zero, Nat.zero_mul, Nat.add_zero]
     refine wpc_mono (Constant_is true _) ?_
     rintro r σ3 ⟨hDc, hE3⟩
     have n3 := hE3.next
     try simp only [next_more, next_put] at n3
     have e3 : EX τ σ3 := by refine EX.trans ?_ hE3; repeat first | assumption | exact EXn.refl _ _ | refine EXn.more ?_ _ | refine EXn.put ?_ (by omega) _ | refine EX.trans ?_ (by assumption)
     have x3 := (e3.row (σ.next + 1) (by omega)).trans x0
     have w3 := (e3.row s (by omega)).trans hrow
     have f3 := e3.fr hF'
     have ex3 : EX σ σ3 := EX.trans hE e3
     simp only [YRUNA, YRUNB, zSh, bit, c_seq, RUNA, RUNB, zAd, zMo, zDi, zSu, zMu, zEq, zBe, zLe, zTo, fillS, wantG, vBox, Value.cells, one, putAt, TYA, hov, ia79 y0 z0, ia79 y1 z1, w3]
     refine wpc_mono (Ite_spec (D0.mono e3) (D1.mono e3) (hDc.zero (Nat.zero_le _) (Nat.le_refl _)) f3) ?_
     rintro r σ4 ⟨hDr, hE4⟩
     have n4 := hE4.next
     try simp only [next_more, next_put] at n4
     try simp only [next_more, next_put] at hDr
     have x4 : σ4.row (σ.next + 1) = some ([.slice none 0 0, .int .i64 0], boxMeta) := (hE4.row (σ.next + 1) (by first | omega | (simp only [next_more, next_put] at *; omega))).trans x3
     obtain ⟨o, k, c', j, rfl⟩ := hDr.open
     simp only [YRUNA, YRUNB, zSh, bit, c_seq, RUNA, RUNB, zAd, zMo, zDi, zSu, zMu, zEq, zBe, zLe, zTo, fillS, wantG, vBox, Value.cells, one, putAt, TYA, s4, x4, hr]
     refine ⟨IsD.congr (IsD.hi (IsD.weak (IsD.un hDr ?_) (by first | omega | (simp only [next_more, next_put] at *; omega))) ?_) (fun f => ?_), ?_⟩
     ·repeat first | assumption | exact UN.refl _ _ _ | refine UN.more ?_ _ | refine UN.put ?_ (by omega) _ | refine UN.ex (by assumption) ?_ (by first | omega | (simp only [next_more, next_put]; omega)) | refine UN.exb (by assumption) ?_ (by first | omega | (simp only [next_more, next_put]; omega)) (by omega)
     ·first | omega | (simp only [next_more, next_put] at *; omega)
     ·rw [hT f, hL]
      simp only [List.map_cons, List.map_nil, trC]
      rw [if_neg (show ¬ t.s = nIff by rw [hs]; decide)]
      cases trT vs f p0 <;> cases trT vs f p1 <;> rfl
     ·repeat first | assumption | exact EXn.refl _ _ | refine EXn.more ?_ _ | refine EXn.put ?_ (by omega) _ | refine EX.trans ?_ (by assumption)
    ·skip
     have v_if : decide (t.s = ⟨#[105, 102]⟩) = false := by rw [hs]; decide
     have v_not : decide (t.s = ⟨#[110, 111, 116]⟩) = false := by rw [hs]; decide
     have v_implies : decide (t.s = ⟨#[105, 109, 112, 108, 105, 101, 115]⟩) = false := by rw [hs]; decide
     simp only [c_seq, RUNA, RUNB, zAd, zMo, zDi, zSu, zMu, zEq, zBe, zLe, zTo, fillS, wantG, vBox, Value.cells, one, putAt, TYA, s1, s2, s4, s31, s32, s33, hov, hd, r0, hr, eqS, v_if, v_not, v_implies]
     refine d_go (ms := [0, 1, 3, 0, 8, 24, 0, 64, 192, 448, 1023, 2047]) (order := [0, 1, 2, 3, 4, 5, 6, 7, 8, 9, 10, 11]) (by kernel_rfl) (by kernel_rfl) (by kernel_rfl) (by kernel_rfl) ?_
     simp only [YRUNA, YRUNB, zSh, bit, c_seq, RUNA, RUNB, zAd, zMo, zDi, zSu, zMu, zEq, zBe, zLe, zTo, fillS, wantG, vBox, Value.cells, one, putAt, TYA, hov, ia79 y0 z0, ia79 y1 z1, hrow, Nat.mul_zero, Nat.zero_mul, Nat.add_zero]
     refine wpc_mono (Not_spec (D1.mono ?_) (by repeat first | assumption | refine Fr.more ?_ _ | refine Fr.put ?_ _ _)) ?_
     ·repeat first | assumption | exact EXn.refl _ _ | refine EXn.more ?_ _ | refine EXn.put ?_ (by omega) _ | refine EX.trans ?_ (by assumption)
     rintro r σ3 ⟨hDc, hE3⟩
     have n3 := hE3.next
     try simp only [next_more, next_put] at n3
     have e3 : EX τ σ3 := by refine EX.trans ?_ hE3; repeat first | assumption | exact EXn.refl _ _ | refine EXn.more ?_ _ | refine EXn.put ?_ (by omega) _ | refine EX.trans ?_ (by assumption)
     have x3 := (e3.row (σ.next + 1) (by omega)).trans x0
     have w3 := (e3.row s (by omega)).trans hrow
     have f3 := e3.fr hF'
     have ex3 : EX σ σ3 := EX.trans hE e3
     simp only [YRUNA, YRUNB, zSh, bit, c_seq, RUNA, RUNB, zAd, zMo, zDi, zSu, zMu, zEq, zBe, zLe, zTo, fillS, wantG, vBox, Value.cells, one, putAt, TYA, hov, ia79 y0 z0, ia79 y1 z1, w3]
     refine wpc_mono (Ite_spec (D0.mono e3) (D1.mono e3) (hDc.zero (Nat.zero_le _) (Nat.le_refl _)) f3) ?_
     rintro r σ4 ⟨hDr, hE4⟩
     have n4 := hE4.next
     try simp only [next_more, next_put] at n4
     try simp only [next_more, next_put] at hDr
     have x4 : σ4.row (σ.next + 1) = some ([.slice none 0 0, .int .i64 0], boxMeta) := (hE4.row (σ.next + 1) (by first | omega | (simp only [next_more, next_put] at *; omega))).trans x3
     obtain ⟨o, k, c', j, rfl⟩ := hDr.open
     simp only [YRUNA, YRUNB, zSh, bit, c_seq, RUNA, RUNB, zAd, zMo, zDi, zSu, zMu, zEq, zBe, zLe, zTo, fillS, wantG, vBox, Value.cells, one, putAt, TYA, s4, x4, hr]
     refine ⟨IsD.congr (IsD.hi (IsD.weak (IsD.un hDr ?_) (by first | omega | (simp only [next_more, next_put] at *; omega))) ?_) (fun f => ?_), ?_⟩
     ·repeat first | assumption | exact UN.refl _ _ _ | refine UN.more ?_ _ | refine UN.put ?_ (by omega) _ | refine UN.ex (by assumption) ?_ (by first | omega | (simp only [next_more, next_put]; omega)) | refine UN.exb (by assumption) ?_ (by first | omega | (simp only [next_more, next_put]; omega)) (by omega)
     ·first | omega | (simp only [next_more, next_put] at *; omega)
     ·rw [hT f, hL]
      simp only [List.map_cons, List.map_nil, trC]
      rw [if_pos hs]
      cases trT vs f p0 <;> cases trT vs f p1 <;> rfl
     ·repeat first | assumption | exact EXn.refl _ _ | refine EXn.more ?_ _ | refine EXn.put ?_ (by omega) _ | refine EX.trans ?_ (by assumption)
   ·obtain ⟨p0, p1, p2, hL⟩ : ∃ p0 p1 p2, t.l = [p0, p1, p2] := by
     match t.l, hl with
     | [p0, p1, p2], _ => exact ⟨p0, p1, p2, rfl⟩
    obtain ⟨d0, d1, d2, rfl⟩ : ∃ d0 d1 d2, ds = [d0, d1, d2] := by
     have hl2 := hdl.trans hl
     match ds, hl2 with
     | [d0, d1, d2], _ => exact ⟨d0, d1, d2, rfl⟩
    rw [hL] at hD
    simp only [tvs, List.map_cons, List.map_nil] at hD
    simp only [List.length_cons, List.length_nil, zAd] at hov
    simp only [flatV] at hrow
    have D0 := DLs.hd hD
    have z0 : (0 : Int) < ((3 : Nat) : Int) := by omega
    have D1 := DLs.hd hD.2
    have z1 : (1 : Int) < ((3 : Nat) : Int) := by omega
    have D2 := DLs.hd hD.2.2
    have z2 : (2 : Int) < ((3 : Nat) : Int) := by omega
    have v_if : decide (t.s = ⟨#[105, 102]⟩) = true := by rw [hs]; decide
    simp only [c_seq, RUNA, RUNB, zAd, zMo, zDi, zSu, zMu, zEq, zBe, zLe, zTo, fillS, wantG, vBox, Value.cells, one, putAt, TYA, s1, s2, s4, s31, s32, s33, hov, hd, r0, hr, eqS, v_if]
    refine d_go (ms := [0, 1, 3, 0, 8, 24, 0, 64, 192, 511, 1023]) (order := [0, 1, 2, 3, 4, 5, 6, 7, 8, 9, 10]) (by kernel_rfl) (by kernel_rfl) (by kernel_rfl) (by kernel_rfl) ?_
    simp only [YRUNA, YRUNB, zSh, bit, c_seq, RUNA, RUNB, zAd, zMo, zDi, zSu, zMu, zEq, zBe, zLe, zTo, fillS, wantG, vBox, Value.cells, one, putAt, TYA, hov, ia79 y0 z0, ia79 y1 z1, ia79 y2 z2, hrow, Nat.mul_zero, Nat.zero_mul, Nat.add_zero]
    refine wpc_mono (Ite_spec (D0.mono ?_) (D1.mono ?_) (D2.mono ?_) (by repeat first | assumption | refine Fr.more ?_ _ | refine Fr.put ?_ _ _)) ?_
    ·repeat first | assumption | exact EXn.refl _ _ | refine EXn.more ?_ _ | refine EXn.put ?_ (by omega) _ | refine EX.trans ?_ (by assumption)
    ·repeat first | assumption | exact EXn.refl _ _ | refine EXn.more ?_ _ | refine EXn.put ?_ (by omega) _ | refine EX.trans ?_ (by assumption)
    ·repeat first | assumption | exact EXn.refl _ _ | refine EXn.more ?_ _ | refine EXn.put ?_ (by omega) _ | refine EX.trans ?_ (by assumption)
    rintro r σ4 ⟨hDr, hE4⟩
    have n4 := hE4.next
    try simp only [next_more, next_put] at n4
    try simp only [next_more, next_put] at hDr
    have x4 : σ4.row (σ.next + 1) = some ([.slice none 0 0, .int .i64 0], boxMeta) := (hE4.row (σ.next + 1) (by first | omega | (simp only [next_more, next_put] at *; omega))).trans x0
    obtain ⟨o, k, c', j, rfl⟩ := hDr.open
    simp only [YRUNA, YRUNB, zSh, bit, c_seq, RUNA, RUNB, zAd, zMo, zDi, zSu, zMu, zEq, zBe, zLe, zTo, fillS, wantG, vBox, Value.cells, one, putAt, TYA, s4, x4, hr]
    refine ⟨IsD.congr (IsD.hi (IsD.weak (IsD.un hDr ?_) (by first | omega | (simp only [next_more, next_put] at *; omega))) ?_) (fun f => ?_), ?_⟩
    ·repeat first | assumption | exact UN.refl _ _ _ | refine UN.more ?_ _ | refine UN.put ?_ (by omega) _ | refine UN.ex (by assumption) ?_ (by first | omega | (simp only [next_more, next_put]; omega)) | refine UN.exb (by assumption) ?_ (by first | omega | (simp only [next_more, next_put]; omega)) (by omega)
    ·first | omega | (simp only [next_more, next_put] at *; omega)
    ·rw [hT f, hL]
     simp only [List.map_cons, List.map_nil, trC]
    ·repeat first | assumption | exact EXn.refl _ _ | refine EXn.more ?_ _ | refine EXn.put ?_ (by omega) _ | refine EX.trans ?_ (by assumption)
mutual
theorem of_spec {vs : List Sy} (hvs : vs.length ≤ 10) : ∀ t : PT, OfS vs t
 | .mk k p s o l => of_step hvs (.mk k p s o l) (ofL_spec hvs l)
theorem ofL_spec {vs : List Sy} (hvs : vs.length ≤ 10) : ∀ (l : List PT) (x : PT), x ∈ l → OfS vs x
 | t :: l, x, h => by
  rcases List.mem_cons.1 h with e | e
  ·rw [e]; exact of_spec hvs t
  ·exact ofL_spec hvs l x e
end
end Go.Proofs.Q
namespace Go.Proofs.Q
open Go.AI
set_option maxRecDepth 4000
set_option maxHeartbeats 2000000 in
theorem Of_spec {σ : St} {v w : Value} {vs : List Sy} {t : PT} (hg : goT t) (hv : TV σ v t) (hw : YL σ w vs) (hvs : vs.length < 1000) (hF : Fr σ) : wpc Tryz.prog 8 #[v, w] σ (OfR vs t σ) := by
 have hv0 := hv
 have hw0 := hw
 obtain ⟨a, c, rfl, -⟩ := hv.al
 obtain ⟨b, d, rfl, -⟩ := hw
 refine body_go Tryz.func8 rfl ?_
 have hr := Tryz.results8
 simp only [c_seq, RUNA, RUNB, zAd, zMo, zDi, zSu, zMu, zEq, zBe, zLe, zTo, fillS, wantG, vBox, Value.cells, one, putAt, TYA, hr]
 refine wpc_mono (checkVars_spec (hw0.mono ?_) hvs) ?_
 ·repeat first | assumption | exact EXn.refl _ _ | refine EXn.more ?_ _ | refine EXn.put ?_ (by omega) _ | refine EX.trans ?_ (by assumption)
 rintro r σ1 ⟨rfl, hE1⟩
 have n1 := hE1.next
 try simp only [next_more, next_put] at n1
 have r1 : σ1.row σ.next = some (tcell t a c, boxMeta) := by rw [hE1.row _ (by first | omega | (simp only [next_more, next_put] at *; omega))]; simp only [c_seq, RUNA, RUNB, zAd, zMo, zDi, zSu, zMu, zEq, zBe, zLe, zTo, fillS, wantG, vBox, Value.cells, one, putAt, tcell]
 simp only [tcell] at r1
 have x1 : σ1.row (σ.next + 1) = some ([.slice none 0 0, .int .i64 0], boxMeta) := by rw [hE1.row _ (by first | omega | (simp only [next_more, next_put] at *; omega))]; simp only [c_seq, RUNA, RUNB, zAd, zMo, zDi, zSu, zMu, zEq, zBe, zLe, zTo, fillS, wantG, vBox, Value.cells, one, putAt]
 have e1 : EX σ σ1 := by refine EX.trans ?_ hE1; repeat first | assumption | exact EXn.refl _ _ | refine EXn.more ?_ _ | refine EXn.put ?_ (by omega) _ | refine EX.trans ?_ (by assumption)
 by_cases h1 : ckY vs = 0
 ·have g1 : (ckY vs != (0 : Int)) = false := by simp [h1]
  have h10 := ckY_len h1
  have hev : eOf vs t = fmT vs t := by simp [eOf, h1]
  simp only [c_seq, RUNA, RUNB, zAd, zMo, zDi, zSu, zMu, zEq, zBe, zLe, zTo, fillS, wantG, vBox, Value.cells, one, putAt, TYA, hr, g1, r1]
  refine wpc_mono (ckT hvs t hg.k hg.ok _ _ _ (hv0.mono ?_) (hw0.mono ?_)) ?_
  ·repeat first | assumption | exact EXn.refl _ _ | refine EXn.more ?_ _ | refine EXn.put ?_ (by omega) _ | refine EX.trans ?_ (by assumption)
  ·repeat first | assumption | exact EXn.refl _ _ | refine EXn.more ?_ _ | refine EXn.put ?_ (by omega) _ | refine EX.trans ?_ (by assumption)
  rintro r σ2 ⟨rfl, hE2⟩
  have n2 := hE2.next
  try simp only [next_more, next_put] at n2
  have r2 := (hE2.row σ.next (by first | omega | (simp only [next_more, next_put] at *; omega))).trans r1
  have x2 := (hE2.row (σ.next + 1) (by first | omega | (simp only [next_more, next_put] at *; omega))).trans x1
  have e2 : EX σ σ2 := by refine EX.trans ?_ hE2; repeat first | assumption | exact EXn.refl _ _ | refine EXn.more ?_ _ | refine EXn.put ?_ (by omega) _ | refine EX.trans ?_ (by assumption)
  by_cases h2 : fmT vs t = 0
  ·have g2 : (fmT vs t != (0 : Int)) = false := by simp [h2]
   have f2 := e2.fr hF
   simp only [c_seq, RUNA, RUNB, zAd, zMo, zDi, zSu, zMu, zEq, zBe, zLe, zTo, fillS, wantG, vBox, Value.cells, one, putAt, TYA, hr, g2, r2]
   refine wpc_mono (of_spec h10 t hg h2 _ _ _ (hv0.mono ?_) (hw0.mono ?_) (by repeat first | assumption | refine Fr.more ?_ _ | refine Fr.put ?_ _ _)) ?_
   ·repeat first | assumption | exact EXn.refl _ _ | refine EXn.more ?_ _ | refine EXn.put ?_ (by omega) _ | refine EX.trans ?_ (by assumption)
   ·repeat first | assumption | exact EXn.refl _ _ | refine EXn.more ?_ _ | refine EXn.put ?_ (by omega) _ | refine EX.trans ?_ (by assumption)
   rintro r σ3 ⟨hD, hE3⟩
   have n3 := hE3.next
   try simp only [next_more, next_put] at n3
   try simp only [next_more, next_put] at hD
   obtain ⟨o, k, c', i, rfl⟩ := hD.open
   have x3 := (hE3.row (σ.next + 1) (by first | omega | (simp only [next_more, next_put] at *; omega))).trans x2
   have q1 : ∀ k, ¬ σ.next + 1 = σ2.next + k := fun k => by omega
   simp only [c_seq, RUNA, RUNB, zAd, zMo, zDi, zSu, zMu, zEq, zBe, zLe, zTo, fillS, wantG, vBox, Value.cells, one, putAt, TYA, x3, hr]
   refine ⟨_, by rw [hev, h2], fun _ => ?_, fun hne => absurd (hev.trans h2) hne, ?_⟩
   ·refine IsD.weak (IsD.hi (IsD.un hD ?_) ?_) (by first | omega | (simp only [next_more, next_put] at *; omega))
    ·repeat first | assumption | exact UN.refl _ _ _ | refine UN.more ?_ _ | refine UN.put ?_ (by omega) _ | refine UN.ex (by assumption) ?_ (by first | omega | (simp only [next_more, next_put]; omega)) | refine UN.exb (by assumption) ?_ (by first | omega | (simp only [next_more, next_put]; omega)) (by omega)
    ·first | omega | (simp only [next_more, next_put] at *; omega)
   ·repeat first | assumption | exact EXn.refl _ _ | refine EXn.more ?_ _ | refine EXn.put ?_ (by omega) _ | refine EX.trans ?_ (by assumption)
  ·have g2 : (fmT vs t != (0 : Int)) = true := by simp [h2]
   simp only [c_seq, RUNA, RUNB, zAd, zMo, zDi, zSu, zMu, zEq, zBe, zLe, zTo, fillS, wantG, vBox, Value.cells, one, putAt, TYA, hr, g2, bdD0, x2]
   refine ⟨_, by rw [hev], fun h0 => absurd (hev.symm.trans h0) h2, fun _ => rfl, ?_⟩
   repeat first | assumption | exact EXn.refl _ _ | refine EXn.more ?_ _ | refine EXn.put ?_ (by omega) _ | refine EX.trans ?_ (by assumption)
 ·have g1 : (ckY vs != (0 : Int)) = true := by simp [h1]
  have hev : eOf vs t = ckY vs := by simp [eOf, h1]
  simp only [c_seq, RUNA, RUNB, zAd, zMo, zDi, zSu, zMu, zEq, zBe, zLe, zTo, fillS, wantG, vBox, Value.cells, one, putAt, TYA, hr, g1, bdD0, x1]
  refine ⟨_, by rw [hev], fun h0 => absurd (hev.symm.trans h0) h1, fun _ => rfl, ?_⟩
  repeat first | assumption | exact EXn.refl _ _ | refine EXn.more ?_ _ | refine EXn.put ?_ (by omega) _ | refine EX.trans ?_ (by assumption)
end Go.Proofs.Q
namespace Go.Proofs.Q
open Go.AI
set_option maxRecDepth 20000
theorem Ten.congr {φ : As → Bool} (h : Ten φ) {f g : As} (e : ∀ i, i < 10 → f i = g i) : φ f = φ g := by
 have h1 := h f
 have h2 := h g
 unfold code at h1 h2
 rw [idx_congr 10 (Nat.le_refl _) e] at h1
 rw [← h1, h2]
theorem two_pow10 {k : Nat} (hk : k < 10) : 2 ^ k < 1024 := Nat.pow_lt_pow_right (by decide) hk (m := k) (n := 10)
theorem shl_one {k : Nat} (hk : k < 10) : IntKind.i64.wrap (1 * 2 ^ (min k IntKind.i64.bits)) = ((2 ^ k : Nat) : Int) := by
 have h : ((2 ^ k : Nat) : Int) < ((1024 : Nat) : Int) := Int.ofNat_lt.2 (two_pow10 hk)
 have h0 : (0 : Int) ≤ ((2 ^ k : Nat) : Int) := Int.natCast_nonneg _
 rw [show min k IntKind.i64.bits = k from Nat.min_eq_left (show k ≤ 64 by omega), Int.one_mul, show (2 : Int) ^ k = ((2 ^ k : Nat) : Int) from (Int.natCast_pow 2 k).symm]
 generalize ((2 ^ k : Nat) : Int) = w at *
 exact wrap64 (by omega) (by omega)
def Dt.occ : Dt → Nat → Prop
 | .leaf _, _ => False
 | .node v lo hi, i => v = i ∨ lo.occ i ∨ hi.occ i
def hasV (l : List Vtx) (i : Nat) : Prop := ∃ k, 2 ≤ k ∧ k < l.length ∧ (vx l k).1 = (i : Int)
theorem hasV_app {l r : List Vtx} {i : Nat} (h : hasV l i) : hasV (l ++ r) i := by
 obtain ⟨k, h1, h2, h3⟩ := h
 exact ⟨k, h1, by simp; omega, by rw [vx_app h2]; exact h3⟩
theorem hasV_put {x : Vtx} {l : List Vtx} (hl : 2 ≤ l.length) {i : Nat} : hasV (put x l) i ↔ hasV l i ∨ x.1 = (i : Int) := by
 unfold put
 split
 ·rename_i h
  obtain ⟨h1, h2⟩ := fnd_spec h
  constructor
  ·exact Or.inl
  ·rintro (h3 | h3)
   ·exact h3
   ·exact ⟨fnd x l, h1, h, by rw [h2]; exact h3⟩
 ·constructor
  ·rintro ⟨k, h1, h2, h3⟩
   by_cases hk : k < l.length
   ·rw [vx_app hk] at h3; exact Or.inl ⟨k, h1, hk, h3⟩
   ·obtain rfl : k = l.length := by simp at h2; omega
    rw [vx_last] at h3; exact Or.inr h3
  ·rintro (h3 | h3)
   ·exact hasV_app h3
   ·exact ⟨l.length, hl, by simp, by rw [vx_last]; exact h3⟩
theorem hasV_num : ∀ (t : Dt) (l : List Vtx) (n : Nat), Gd l → t.ok n → ∀ i, hasV (num t l).2 i ↔ hasV l i ∨ t.occ i := by
 intro t
 induction t with
 | leaf b => intro l n g _ i; simp [num, Dt.occ]
 | node v lo hi ih1 ih2 =>
  intro l n g ho i
  obtain ⟨g1, _, _⟩ := num_ok lo l (v + 1) g ho.2.2.2.1
  obtain ⟨g2, _, _⟩ := num_ok hi (num lo l).2 (v + 1) g1 ho.2.2.2.2
  rw [num_node]
  simp only
  rw [hasV_put g2.len, ih2 _ (v + 1) g1 ho.2.2.2.2, ih1 _ (v + 1) g ho.2.2.2.1]
  simp only [Dt.occ]
  constructor
  ·rintro ((h | h) | h)
   ·rcases h with h | h
    ·exact Or.inl h
    ·exact Or.inr (Or.inr (Or.inl h))
   ·exact Or.inr (Or.inr (Or.inr h))
   ·exact Or.inr (Or.inl (by omega))
  ·rintro (h | h | h | h)
   ·exact Or.inl (Or.inl (Or.inl h))
   ·exact Or.inr (by omega)
   ·exact Or.inl (Or.inl (Or.inr h))
   ·exact Or.inl (Or.inr h)
theorem hasV_cd {T : Dt} (h : T.ok 0) (i : Nat) : hasV (cd T).1 i ↔ T.occ i := by
 have := hasV_num T c01 0 gd01 h i
 have h0 : ¬ hasV c01 i := by rintro ⟨k, h1, h2, _⟩; have : c01.length = 2 := rfl; omega
 simp only [cd]; rw [this]; simp [h0]
def dep (φ : As → Bool) (i : Nat) : Prop := ∃ f, φ (upd f i true) ≠ φ (upd f i false)
theorem upd_comm {f : As} {i j : Nat} {a b : Bool} (h : i ≠ j) : upd (upd f i a) j b = upd (upd f j b) i a := by
 funext k; unfold upd
 by_cases h1 : k = i
 ·by_cases h2 : k = j
  ·omega
  ·simp [h1, h]
 ·by_cases h2 : k = j
  ·subst h2; simp [h1]
  ·simp [h1, h2]
theorem upd_ne {f : As} {i j : Nat} {a : Bool} (h : j ≠ i) : upd f i a j = f j := by unfold upd; rw [if_neg h]
theorem occ_not : ∀ (T : Dt) (i : Nat), ¬ T.occ i → ∀ (f : As) (b : Bool), T.ev (upd f i b) = T.ev f := by
 intro T
 induction T with
 | leaf c => intro i _ f b; rfl
 | node v lo hi ih1 ih2 =>
  intro i h f b
  simp only [Dt.occ, not_or] at h
  simp only [Dt.ev, upd_ne h.1, ih1 i h.2.1, ih2 i h.2.2]
theorem occ_dep : ∀ (T : Dt) (n : Nat), T.ok n → ∀ i, T.occ i ↔ dep T.ev i := by
 intro T
 induction T with
 | leaf c => intro n _ i; simp [Dt.occ, dep, Dt.ev]
 | node v lo hi ih1 ih2 =>
  intro n ho i
  constructor
  ·intro h
   by_cases hv : v = i
   ·subst hv
    have hne : ∃ f, hi.ev f ≠ lo.ev f := by
     apply Classical.byContradiction
     intro hc
     exact ho.2.2.1 (Dt.uniq ho.2.2.2.1 ho.2.2.2.2 (fun f => Classical.byContradiction fun e => hc ⟨f, fun e' => e e'.symm⟩))
    obtain ⟨f, hf⟩ := hne
    refine ⟨f, ?_⟩
    simp only [Dt.ev, upd_self, if_true, Bool.false_eq_true, if_false]
    rw [Dt.ev_upd ho.2.2.2.2 (by omega), Dt.ev_upd ho.2.2.2.1 (by omega)]
    exact hf
   ·rcases h with h | h | h
    ·exact (hv h).elim
    ·obtain ⟨f, hf⟩ := (ih1 (v + 1) ho.2.2.2.1 i).1 h
     refine ⟨upd f v false, ?_⟩
     rw [upd_comm hv, upd_comm hv]
     simp only [Dt.ev, upd_self, Bool.false_eq_true, if_false]
     rw [Dt.ev_upd (v := v) ho.2.2.2.1 (by omega), Dt.ev_upd (v := v) ho.2.2.2.1 (by omega)]
     exact hf
    ·obtain ⟨f, hf⟩ := (ih2 (v + 1) ho.2.2.2.2 i).1 h
     refine ⟨upd f v true, ?_⟩
     rw [upd_comm hv, upd_comm hv]
     simp only [Dt.ev, upd_self, if_true]
     rw [Dt.ev_upd (v := v) ho.2.2.2.2 (by omega), Dt.ev_upd (v := v) ho.2.2.2.2 (by omega)]
     exact hf
  ·rintro ⟨f, hf⟩
   apply Classical.byContradiction
   intro hc
   exact hf (by rw [occ_not _ i hc, occ_not _ i hc])
theorem dep_ref {φ : As → Bool} (h : Ten φ) {i : Nat} (hi : i < 10) : dep φ i ↔ ∃ n, n < 1024 ∧ φ (bits n) ≠ φ (bits (n ^^^ 2 ^ i)) := by
 have hb : ∀ n, n < 1024 → ∀ j, j < 10 → bits (n ^^^ 2 ^ i) j = upd (bits n) i (!(bits n i)) j := by
  intro n hn j hj
  show bitF j (n ^^^ 2 ^ i) = if j = i then !(bitF i n) else bitF j n
  rw [bitF_eq, bitF_eq, bitF_eq, Nat.testBit_xor, Nat.testBit_two_pow]
  by_cases e : j = i
  ·subst e; simp
  ·have e' : ¬ i = j := fun h => e h.symm
   simp [e, e']
 constructor
 ·rintro ⟨f, hf⟩
  refine ⟨code (upd f i true), code_lt _, ?_⟩
  rw [h, h.congr (f := bits (code (upd f i true) ^^^ 2 ^ i)) (g := upd f i false) ?_]
  ·exact hf
  intro j hj
  rw [hb _ (code_lt _) j hj]
  have : bits (code (upd f i true)) i = true := by rw [bits_code _ hi, upd_self]
  rw [this]
  unfold upd
  by_cases e : j = i
  ·simp [e]
  ·simp only [e, if_false]; rw [bits_code _ hj]; simp [e]
 ·rintro ⟨n, hn, hf⟩
  refine ⟨bits n, ?_⟩
  rw [h.congr (hb n hn)] at hf
  cases hx : bits n i with
  | true =>
   rw [hx] at hf
   rw [upd_id hx]
   exact hf
  | false =>
   rw [hx] at hf
   rw [upd_id hx]
   exact fun e => hf e.symm
noncomputable def depB (φ : As → Bool) (i : Nat) : Bool := @decide (dep φ i) (Classical.propDecidable _)
theorem depB_t {φ : As → Bool} {i : Nat} (h : dep φ i) : depB φ i = true := by unfold depB; exact @decide_eq_true _ (Classical.propDecidable _) h
theorem depB_f {φ : As → Bool} {i : Nat} (h : ¬ dep φ i) : depB φ i = false := by unfold depB; exact @decide_eq_false _ (Classical.propDecidable _) h
def supL (p : Nat → Bool) (n : Nat) : List Int := ((List.range n).filter p).map fun (k : Nat) => (k : Int)
theorem supL_t {p : Nat → Bool} {n : Nat} (h : p n = true) : supL p (n + 1) = supL p n ++ [(n : Int)] := by simp [supL, List.range_succ, List.filter_append, h]
theorem supL_f {p : Nat → Bool} {n : Nat} (h : p n = false) : supL p (n + 1) = supL p n := by simp [supL, List.range_succ, List.filter_append, h]
theorem supL_len (p : Nat → Bool) (n : Nat) : (supL p n).length ≤ n := by
 unfold supL; rw [List.length_map]; exact Nat.le_trans (List.length_filter_le _ _) (by simp)
theorem OL.but {s s' : Nat} {σ τ : St} (h : EX σ τ) {τ' : St} (k : But s s' τ τ') (h1 : σ.next ≤ s) (h2 : σ.next ≤ s') : EX σ τ' := EXn.trans h (k.exn h1 h2)
def spI (p : Nat → Bool) (n0 : Nat) (out : Nat) (S : Slots) (τ : St) (v : Nat) : Prop := ∃ s, n0 < s ∧ s ≤ τ.next ∧ OL τ (S.at out) (supL p v) s
theorem refSupport_spec {σ : St} {a : Value} {φ : As → Bool} (ha : IsD 0 σ.next σ a φ) (hF : Fr σ) : wpc Tryz.prog 40 #[a] σ fun r σ' => (∃ s, OL σ' r (supL (depB φ) 10) s) ∧ EX σ σ' := by
 have ten := ha.ten
 obtain ⟨o1, k1, c1, i1, rfl⟩ := ha.open
 refine body_go Tryz.func40 rfl ?_
 have hr := Tryz.results40
 simp only [c_seq, RUNA, RUNB, zAd, zMo, zDi, zSu, zMu, zEq, zBe, zLe, zTo, fillS, wantG, vBox, Value.cells, one, putAt, TYA, hr]
 refine wpc_mono (Table_is (ha.un ?_) (by first | omega | (simp only [next_more, next_put] at *; omega))) ?_
 ·repeat first | assumption | exact UN.refl _ _ _ | refine UN.more ?_ _ | refine UN.put ?_ (by omega) _ | refine UN.ex (by assumption) ?_ (by first | omega | (simp only [next_more, next_put]; omega)) | refine UN.exb (by assumption) ?_ (by first | omega | (simp only [next_more, next_put]; omega)) (by omega)
 rintro r σ1 ⟨⟨d1, rfl, t1, t1', t1''⟩, hE1⟩
 have n1 := hE1.next
 simp only [next_more, next_put] at n1 t1
 have e1 : EX σ σ1 := by repeat first | assumption | exact EXn.refl _ _ | refine EXn.more ?_ _ | refine EXn.put ?_ (by omega) _ | refine EX.trans ?_ (by assumption)
 have f1 := e1.fr hF
 simp only [c_seq, RUNA, RUNB, zAd, zMo, zDi, zSu, zMu, zEq, zBe, zLe, zTo, fillS, wantG, vBox, Value.cells, one, putAt, TYA]
 refine loop_go (fun m S τ => S.at 3 = .slice (some ⟨d1, 0, none⟩) 1024 1024 ∧ EX σ τ ∧ Fr τ ∧ σ1.next ≤ τ.next ∧ τ.row d1 = some ((tab 1024 fun n => φ (bits n)).map Value.bool, rowMeta 1) ∧
  ∃ i : Nat, S.at 5 = .int .i64 i ∧ i ≤ 10 ∧ m = 10 - i ∧ spI (depB φ) d1 4 S τ i) 10 ?_ ?_
 ·simp only [c_seq, RUNA, RUNB, zAd, zMo, zDi, zSu, zMu, zEq, zBe, zLe, zTo, fillS, wantG, vBox, Value.cells, one, putAt]
  refine ⟨?_, by repeat first | assumption | refine Fr.more ?_ _ | refine Fr.put ?_ _ _, by omega, t1'', 0, rfl, by omega, by omega, d1 + 1, by omega, by first | omega | (simp only [next_more, next_put] at *; omega), Or.inl ⟨by simp only [c_seq, RUNA, RUNB, zAd, zMo, zDi, zSu, zMu, zEq, zBe, zLe, zTo, fillS, wantG, vBox, Value.cells, one, putAt], rfl⟩⟩
  repeat first | assumption | exact EXn.refl _ _ | refine EXn.more ?_ _ | refine EXn.put ?_ (by omega) _ | refine EX.trans ?_ (by assumption)
 rintro _ S τ ⟨s3, hE, hF', hx, rd, i, s5, hi, rfl, s, hs, hsn, hO⟩
 have nn := hE.next
 by_cases hlt : i < 10
 ·have hd : decide ((i : Int) < 10) = true := by simp; omega
  have hw : IntKind.i64.wrap ((i : Int) + 1) = ((i + 1 : Nat) : Int) := by rw [wrap64 (by omega) (by omega)]; rfl
  simp only [c_seq, RUNA, RUNB, zAd, zMo, zDi, zSu, zMu, zEq, zBe, zLe, zTo, fillS, wantG, vBox, Value.cells, one, putAt, TYA, s3, s5, hd]
  obtain ⟨ov, hov⟩ : ∃ ov, S.at 4 = ov := ⟨_, rfl⟩
  rw [hov] at hO
  refine loop_go (fun m S τ' => S.at 3 = .slice (some ⟨d1, 0, none⟩) 1024 1024 ∧ S.at 4 = ov ∧ S.at 5 = .int .i64 i ∧ EX τ τ' ∧
   ∃ n : Nat, S.at 6 = .int .i64 n ∧ n ≤ 1024 ∧ m = 1024 - n ∧ ∀ j, j < n → φ (bits j) = φ (bits (j ^^^ 2 ^ i))) 1024 ?_ ?_
  ·simp only [c_seq, RUNA, RUNB, zAd, zMo, zDi, zSu, zMu, zEq, zBe, zLe, zTo, fillS, wantG, vBox, Value.cells, one, putAt, s3, s5, hov]
   refine ⟨?_, 0, rfl, by omega, rfl, fun j hj => by omega⟩
   repeat first | assumption | exact EXn.refl _ _ | refine EXn.more ?_ _ | refine EXn.put ?_ (by omega) _ | refine EX.trans ?_ (by assumption)
  clear s3 s5 hov
  rintro _ S τ' ⟨s3, s4, s5, hE', n, s6, hn, rfl, hall⟩
  have nn' := hE'.next
  have rd' := (hE'.row d1 (by omega)).trans rd
  have hF2 := hE'.fr hF'
  have exx : EX σ τ' := EX.trans hE hE'
  by_cases hnl : n < 1024
  ·have hd' : decide ((n : Int) < ((1024 : Nat) : Int)) = true := by simp; omega
   have z4 : (0 : Int) ≤ (i : Int) := by omega
   have hp := two_pow10 hlt
   have hsh := shl_one hlt
   have hxl : n ^^^ 2 ^ i < 1024 := Nat.xor_lt_two_pow (n := 10) hnl hp
   have hxr : IntKind.i64.wrap ((BitVec.ofInt IntKind.i64.bits (n : Int) ^^^ BitVec.ofInt IntKind.i64.bits ((2 ^ i : Nat) : Int)).toNat : Int) = ((n ^^^ 2 ^ i : Nat) : Int) := by
    have e : (BitVec.ofInt 64 (n : Int) ^^^ BitVec.ofInt 64 ((2 ^ i : Nat) : Int)).toNat = n ^^^ 2 ^ i := by
     rw [BitVec.toNat_xor, BitVec.ofInt_natCast, BitVec.ofInt_natCast, BitVec.toNat_ofNat, BitVec.toNat_ofNat, Nat.mod_eq_of_lt (by omega), Nat.mod_eq_of_lt (by omega)]
    show IntKind.i64.wrap (((BitVec.ofInt 64 (n : Int) ^^^ BitVec.ofInt 64 ((2 ^ i : Nat) : Int)).toNat : Nat) : Int) = _
    rw [e]; exact wrap64 (by omega) (by omega)
   have y0 : (0 : Int) ≤ (n : Int) := by omega
   have y1 : (n : Int) < ((1024 : Nat) : Int) := by omega
   have w0 : (0 : Int) ≤ ((n ^^^ 2 ^ i : Nat) : Int) := Int.natCast_nonneg _
   have w1 : ((n ^^^ 2 ^ i : Nat) : Int) < ((1024 : Nat) : Int) := Int.ofNat_lt.2 hxl
   have hv1 := tabv (f := fun n => φ (bits n)) hnl
   have hv2 := tabv (f := fun n => φ (bits n)) hxl
   have hw' : IntKind.i64.wrap ((n : Int) + 1) = ((n + 1 : Nat) : Int) := by rw [wrap64 (by omega) (by omega)]; rfl
   simp only [c_seq, RUNA, RUNB, zAd, zMo, zDi, zSu, zMu, zEq, zBe, zLe, zTo, fillS, wantG, vBox, Value.cells, one, putAt, TYA, s3, s4, s5, s6, hd']
   refine d_go (ms := [0, 0, 3, 7, 0, 0, 0, 64, 224, 496, 1008, 2047]) (order := [0, 1, 2, 3, 4, 5, 6, 7, 8, 9, 10, 11]) (by kernel_rfl) (by kernel_rfl) (by kernel_rfl) (by kernel_rfl) ?_
   simp only [YRUNA, YRUNB, zSh, bit, c_seq, RUNA, RUNB, zAd, zMo, zDi, zSu, zMu, zEq, zBe, zLe, zTo, fillS, wantG, vBox, Value.cells, one, putAt, TYA, s3, s4, s5, s6, n_shl z4, hsh, n_xor, hxr, ia63 y0 y1, ia63 w0 w1, rd', hv1, hv2, n_neb Tryz.underlying4]
   by_cases he : φ (bits n) = φ (bits (n ^^^ 2 ^ i))
   ·have hb : (!(φ (bits n) == φ (bits (n ^^^ 2 ^ i)))) = false := by rw [he]; simp
    simp only [c_seq, RUNA, RUNB, zAd, zMo, zDi, zSu, zMu, zEq, zBe, zLe, zTo, fillS, wantG, vBox, Value.cells, one, putAt, TYA, hb, s3, s4, s5, s6, hw']
    refine ⟨1024 - (n + 1), by omega, ?_, n + 1, rfl, by omega, rfl, fun j hj => ?_⟩
    ·repeat first | assumption | exact EXn.refl _ _ | refine EXn.more ?_ _ | refine EXn.put ?_ (by omega) _ | refine EX.trans ?_ (by assumption)
    ·by_cases hjn : j = n
     ·rw [hjn]; exact he
     ·exact hall j (by omega)
   ·have hb : (!(φ (bits n) == φ (bits (n ^^^ 2 ^ i)))) = true := by simp [he]
    have hdep : dep φ i := (dep_ref ten hlt).2 ⟨n, hnl, he⟩
    simp only [c_seq, RUNA, RUNB, zAd, zMo, zDi, zSu, zMu, zEq, zBe, zLe, zTo, fillS, wantG, vBox, Value.cells, one, putAt, TYA, hb, s3, s4, s5, s6, bs58_1]
    have hF3 : Fr (((τ'.more 4).more 12).more 5) := by repeat first | assumption | refine Fr.more ?_ _ | refine Fr.put ?_ _ _
    refine OL.app (s := s) (id := τ'.next + 18) (id' := τ'.next + 19) (dn := supL (depB φ) i) (x := (i : Int)) (m := rowMeta 1) ?_ (by simp only [c_seq, RUNA, RUNB, zAd, zMo, zDi, zSu, zMu, zEq, zBe, zLe, zTo, fillS, wantG, vBox, Value.cells, one, putAt]) ?_ (by first | omega | (simp only [next_more, next_put] at *; omega)) ?_ (by have := supL_len (depB φ) i; omega) ?_
    ·exact hO.mono (by repeat first | assumption | exact EXn.refl _ _ | refine EXn.more ?_ _ | refine EXn.put ?_ (by omega) _ | refine EX.trans ?_ (by assumption))
    ·rw [ver_put]; exact hF2 _ (by omega)
    ·omega
    intro r σ3 hO3 hB
    have bn := hB.next
    simp only [next_put, next_more] at bn
    have ex3 : EX σ σ3 := OL.but (by repeat first | assumption | exact EXn.refl _ _ | refine EXn.more ?_ _ | refine EXn.put ?_ (by omega) _ | refine EX.trans ?_ (by assumption)) hB (by omega) (by omega)
    have rd3 : σ3.row d1 = some ((tab 1024 fun n => φ (bits n)).map Value.bool, rowMeta 1) := by rw [hB.row d1 (by omega) (by omega), row_put_ne (by omega)]; exact rd'
    have hF4 := ex3.fr hF
    simp only [c_seq, RUNA, RUNB, zAd, zMo, zDi, zSu, zMu, zEq, zBe, zLe, zTo, fillS, wantG, vBox, Value.cells, one, putAt, TYA, s3, s4, s5, s6, hw]
    refine ⟨10 - (i + 1), by omega, ?_, by repeat first | assumption | refine Fr.more ?_ _ | refine Fr.put ?_ _ _, by omega, rd3, i + 1, rfl, by omega, rfl, τ'.next + 19, by omega, by first | omega | (simp only [next_more, next_put] at *; omega), ?_⟩
    ·repeat first | assumption | exact EXn.refl _ _ | refine EXn.more ?_ _ | refine EXn.put ?_ (by omega) _ | refine EX.trans ?_ (by assumption)
    ·rw [supL_t (depB_t hdep)]
     simp only [c_seq, RUNA, RUNB, zAd, zMo, zDi, zSu, zMu, zEq, zBe, zLe, zTo, fillS, wantG, vBox, Value.cells, one, putAt]
     exact hO3.mono (by repeat first | assumption | exact EXn.refl _ _ | refine EXn.more ?_ _ | refine EXn.put ?_ (by omega) _ | refine EX.trans ?_ (by assumption))
  ·have hd' : decide ((n : Int) < ((1024 : Nat) : Int)) = false := by simp; omega
   have hnd : ¬ dep φ i := fun h => by
    obtain ⟨q, hq1, hq2⟩ := (dep_ref ten hlt).1 h
    exact hq2 (hall q (by omega))
   simp only [c_seq, RUNA, RUNB, zAd, zMo, zDi, zSu, zMu, zEq, zBe, zLe, zTo, fillS, wantG, vBox, Value.cells, one, putAt, TYA, s3, s4, s5, s6, hd', hw]
   refine ⟨10 - (i + 1), by omega, ?_, by repeat first | assumption | refine Fr.more ?_ _ | refine Fr.put ?_ _ _, by omega, rd', i + 1, rfl, by omega, rfl, s, hs, by first | omega | (simp only [next_more, next_put] at *; omega), ?_⟩
   ·repeat first | assumption | exact EXn.refl _ _ | refine EXn.more ?_ _ | refine EXn.put ?_ (by omega) _ | refine EX.trans ?_ (by assumption)
   ·rw [supL_f (depB_f hnd)]
    simp only [c_seq, RUNA, RUNB, zAd, zMo, zDi, zSu, zMu, zEq, zBe, zLe, zTo, fillS, wantG, vBox, Value.cells, one, putAt, s4]
    exact hO.mono (by repeat first | assumption | exact EXn.refl _ _ | refine EXn.more ?_ _ | refine EXn.put ?_ (by omega) _ | refine EX.trans ?_ (by assumption))
 ·have hd : decide ((i : Int) < 10) = false := by simp; omega
  obtain rfl : i = 10 := by omega
  simp only [c_seq, RUNA, RUNB, zAd, zMo, zDi, zSu, zMu, zEq, zBe, zLe, zTo, fillS, wantG, vBox, Value.cells, one, putAt, TYA, s3, s5, hd, hr]
  refine ⟨⟨s, hO.mono ?_⟩, ?_⟩
  ·repeat first | assumption | exact EXn.refl _ _ | refine EXn.more ?_ _ | refine EXn.put ?_ (by omega) _ | refine EX.trans ?_ (by assumption)
  ·repeat first | assumption | exact EXn.refl _ _ | refine EXn.more ?_ _ | refine EXn.put ?_ (by omega) _ | refine EX.trans ?_ (by assumption)
theorem Support_spec {σ : St} {a : Value} {φ : As → Bool} (ha : IsD 0 σ.next σ a φ) (hF : Fr σ) : wpc Tryz.prog 38 #[a] σ fun r σ' => (∃ s, OL σ' r (supL (depB φ) 10) s) ∧ EX σ σ' := by
 obtain ⟨A, hA, oA, eA⟩ := ha
 obtain ⟨gA, rA⟩ := cd_gd oA
 have hdp : ∀ i, dep φ i ↔ hasV (cd A).1 i := fun i => by
  rw [hasV_cd oA, occ_dep A 0 oA]
  have : A.ev = φ := funext eA
  rw [this]
 have hcl := cd_len oA (by omega)
 obtain ⟨ia, fa, ca, rowa, ma, rfl, -, la, wa, ta⟩ := hA.row oA
 have hl2 := gA.len
 refine body_go Tryz.func38 rfl ?_
 have hr := Tryz.results38
 simp only [c_seq, RUNA, RUNB, zAd, zMo, zDi, zSu, zMu, zEq, zBe, zLe, zTo, fillS, wantG, vBox, Value.cells, one, putAt, TYA, hr]
 refine wpc_mono (safe_spec (hA.un ?_) (by first | omega | (simp only [next_more, next_put] at *; omega)) oA (by repeat first | assumption | refine Fr.more ?_ _ | refine Fr.put ?_ _ _)) ?_
 ·repeat first | assumption | exact UN.refl _ _ _ | refine UN.more ?_ _ | refine UN.put ?_ (by omega) _ | refine UN.ex (by assumption) ?_ (by first | omega | (simp only [next_more, next_put]; omega)) | refine UN.exb (by assumption) ?_ (by first | omega | (simp only [next_more, next_put]; omega)) (by omega)
 rintro r σ1 ⟨rfl, hE1⟩
 have n1 := hE1.next
 simp only [next_more, next_put] at n1
 have a1 : σ1.row σ.next = some ([.slice (some ⟨ia, fa, none⟩) (cd A).1.length ca, .int .i64 (cd A).2], boxMeta) := by rw [hE1.row _ (by first | omega | (simp only [next_more, next_put] at *; omega))]; simp only [c_seq, RUNA, RUNB, zAd, zMo, zDi, zSu, zMu, zEq, zBe, zLe, zTo, fillS, wantG, vBox, Value.cells, one, putAt]
 have e1 : EX σ σ1 := by repeat first | assumption | exact EXn.refl _ _ | refine EXn.more ?_ _ | refine EXn.put ?_ (by omega) _ | refine EX.trans ?_ (by assumption)
 have f1 := e1.fr hF
 have v01 : (vx (cd A).1 0).1 = -1 ∧ (vx (cd A).1 1).1 = -1 := by
  have := cd_valid oA
  exact ⟨by rw [this.2.1], by rw [this.2.2.1]⟩
 generalize cd A = d at *
 obtain ⟨l, root⟩ := d
 simp only at *
 simp only [c_seq, RUNA, RUNB, zAd, zMo, zDi, zSu, zMu, zEq, zBe, zLe, zTo, fillS, wantG, vBox, Value.cells, one, putAt, TYA, a1]
 refine loop_go (fun m S τ => S.at 1 = .pointer (some ⟨σ.next, 0, none⟩) ∧ EX σ τ ∧ Fr τ ∧ σ.next + 2 ≤ τ.next ∧ τ.row σ.next = some ([.slice (some ⟨ia, fa, none⟩) l.length ca, .int .i64 root], boxMeta) ∧
  ∃ i : Nat, S.at 9 = .int .i64 i ∧ i ≤ 10 ∧ m = 10 - i ∧ spI (depB φ) σ.next 3 S τ i) 10 ?_ ?_
 ·simp only [c_seq, RUNA, RUNB, zAd, zMo, zDi, zSu, zMu, zEq, zBe, zLe, zTo, fillS, wantG, vBox, Value.cells, one, putAt]
  refine ⟨?_, by repeat first | assumption | refine Fr.more ?_ _ | refine Fr.put ?_ _ _, by omega, 0, rfl, by omega, by omega, σ.next + 1, by omega, by first | omega | (simp only [next_more, next_put] at *; omega), Or.inl ⟨by simp only [c_seq, RUNA, RUNB, zAd, zMo, zDi, zSu, zMu, zEq, zBe, zLe, zTo, fillS, wantG, vBox, Value.cells, one, putAt], rfl⟩⟩
  repeat first | assumption | exact EXn.refl _ _ | refine EXn.more ?_ _ | refine EXn.put ?_ (by omega) _ | refine EX.trans ?_ (by assumption)
 rintro _ S τ ⟨s1, hE, hF', hx, rd, i, s9, hi, rfl, s, hs, hsn, hO⟩
 have nn := hE.next
 by_cases hlt : i < 10
 ·have hd : decide ((i : Int) < 10) = true := by simp; omega
  have hw : IntKind.i64.wrap ((i : Int) + 1) = ((i + 1 : Nat) : Int) := by rw [wrap64 (by omega) (by omega)]; rfl
  simp only [c_seq, RUNA, RUNB, zAd, zMo, zDi, zSu, zMu, zEq, zBe, zLe, zTo, fillS, wantG, vBox, Value.cells, one, putAt, TYA, s1, s9, hd, rd]
  obtain ⟨ov, hov⟩ : ∃ ov, S.at 3 = ov := ⟨_, rfl⟩
  rw [hov] at hO
  refine loop_go (fun m S τ' => S.at 1 = .pointer (some ⟨σ.next, 0, none⟩) ∧ S.at 3 = ov ∧ S.at 4 = .int .i64 i ∧ S.at 9 = .int .i64 i ∧ S.at 13 = .slice (some ⟨ia, fa, none⟩) l.length ca ∧ S.at 14 = .int .i64 (l.length : Nat) ∧ EX τ τ' ∧
   ∃ n : Nat, S.at 15 = .int .i64 n ∧ n ≤ l.length ∧ m = l.length - n ∧ ∀ j, j < n → (vx l j).1 ≠ (i : Int)) l.length ?_ ?_
  ·simp only [c_seq, RUNA, RUNB, zAd, zMo, zDi, zSu, zMu, zEq, zBe, zLe, zTo, fillS, wantG, vBox, Value.cells, one, putAt, s1, s9, hov]
   refine ⟨?_, 0, rfl, by omega, rfl, fun j hj => by omega⟩
   repeat first | assumption | exact EXn.refl _ _ | refine EXn.more ?_ _ | refine EXn.put ?_ (by omega) _ | refine EX.trans ?_ (by assumption)
  clear s1 s9 hov
  rintro _ S τ' ⟨s1, s3, s4, s9, s13, s14, hE', n, s15, hn, rfl, hall⟩
  have nn' := hE'.next
  have rd' := (hE'.row σ.next (by omega)).trans rd
  have hF2 := hE'.fr hF'
  have exx : EX σ τ' := EX.trans hE hE'
  by_cases hnl : n < l.length
  ·have hd' : decide ((n : Int) < (l.length : Int)) = true := by simp; omega
   have y0 : (0 : Int) ≤ (n : Int) := by omega
   have y1 : (n : Int) < (l.length : Int) := by omega
   have ra := (exx.row ia la).trans wa
   have ck := row_cut ta hnl
   have hw' : IntKind.i64.wrap ((n : Int) + 1) = ((n + 1 : Nat) : Int) := by rw [wrap64 (by omega) (by omega)]; rfl
   by_cases he : (vx l n).1 = (i : Int)
   ·have hb : ((vx l n).1 == (i : Int)) = true := by simp [he]
    have hdep : dep φ i := by
     refine (hdp i).2 ⟨n, ?_, hnl, he⟩
     by_cases h2 : 2 ≤ n
     ·exact h2
     ·obtain rfl | rfl : n = 0 ∨ n = 1 := by omega
      ·rw [v01.1] at he; omega
      ·rw [v01.2] at he; omega
    simp only [c_seq, RUNA, RUNB, zAd, zMo, zDi, zSu, zMu, zEq, zBe, zLe, zTo, fillS, wantG, vBox, Value.cells, one, putAt, TYA, s1, s3, s4, s9, s13, s14, s15, hd', ia39 y0 y1, ra, ck, hb, bs58_1]
    refine OL.app (s := s) (id := τ'.next + 11) (id' := τ'.next + 12) (dn := supL (depB φ) i) (x := (i : Int)) (m := rowMeta 1) ?_ (by simp only [c_seq, RUNA, RUNB, zAd, zMo, zDi, zSu, zMu, zEq, zBe, zLe, zTo, fillS, wantG, vBox, Value.cells, one, putAt]) ?_ (by first | omega | (simp only [next_more, next_put] at *; omega)) ?_ (by have := supL_len (depB φ) i; omega) ?_
    ·exact hO.mono (by repeat first | assumption | exact EXn.refl _ _ | refine EXn.more ?_ _ | refine EXn.put ?_ (by omega) _ | refine EX.trans ?_ (by assumption))
    ·rw [ver_put]; exact hF2 _ (by omega)
    ·omega
    intro r σ3 hO3 hB
    have bn := hB.next
    simp only [next_put, next_more] at bn
    have ex3 : EX σ σ3 := OL.but (by repeat first | assumption | exact EXn.refl _ _ | refine EXn.more ?_ _ | refine EXn.put ?_ (by omega) _ | refine EX.trans ?_ (by assumption)) hB (by omega) (by omega)
    have rd3 : σ3.row σ.next = some ([.slice (some ⟨ia, fa, none⟩) l.length ca, .int .i64 root], boxMeta) := by
     rw [hB.row σ.next (by omega) (by omega), row_put_ne (by omega), row_more, row_more, row_put_ne (by omega)]
     first | exact rd' | (rw [row_put_ne (by omega)]; exact rd')
    have hF4 := ex3.fr hF
    simp only [c_seq, RUNA, RUNB, zAd, zMo, zDi, zSu, zMu, zEq, zBe, zLe, zTo, fillS, wantG, vBox, Value.cells, one, putAt, TYA, s1, s3, s4, s9, s13, s14, s15, hw]
    refine ⟨10 - (i + 1), by omega, ?_, by repeat first | assumption | refine Fr.more ?_ _ | refine Fr.put ?_ _ _, by omega, rd3, i + 1, rfl, by omega, rfl, τ'.next + 12, by omega, by first | omega | (simp only [next_more, next_put] at *; omega), ?_⟩
    ·repeat first | assumption | exact EXn.refl _ _ | refine EXn.more ?_ _ | refine EXn.put ?_ (by omega) _ | refine EX.trans ?_ (by assumption)
    ·rw [supL_t (depB_t hdep)]
     simp only [c_seq, RUNA, RUNB, zAd, zMo, zDi, zSu, zMu, zEq, zBe, zLe, zTo, fillS, wantG, vBox, Value.cells, one, putAt]
     exact hO3.mono (by repeat first | assumption | exact EXn.refl _ _ | refine EXn.more ?_ _ | refine EXn.put ?_ (by omega) _ | refine EX.trans ?_ (by assumption))
   ·have hb : ((vx l n).1 == (i : Int)) = false := by simp [he]
    simp only [c_seq, RUNA, RUNB, zAd, zMo, zDi, zSu, zMu, zEq, zBe, zLe, zTo, fillS, wantG, vBox, Value.cells, one, putAt, TYA, s1, s3, s4, s9, s13, s14, s15, hd', ia39 y0 y1, ra, ck, hb, hw']
    refine ⟨l.length - (n + 1), by omega, ?_, n + 1, rfl, by omega, rfl, fun j hj => ?_⟩
    ·repeat first | assumption | exact EXn.refl _ _ | refine EXn.more ?_ _ | refine EXn.put ?_ (by omega) _ | refine EX.trans ?_ (by assumption)
    ·by_cases hjn : j = n
     ·rw [hjn]; exact he
     ·exact hall j (by omega)
  ·have hd' : decide ((n : Int) < (l.length : Int)) = false := by simp; omega
   have hnd : ¬ dep φ i := fun h => by
    obtain ⟨q, hq1, hq2, hq3⟩ := (hdp i).1 h
    exact hall q (by omega) hq3
   simp only [c_seq, RUNA, RUNB, zAd, zMo, zDi, zSu, zMu, zEq, zBe, zLe, zTo, fillS, wantG, vBox, Value.cells, one, putAt, TYA, s1, s3, s4, s9, s13, s14, s15, hd', hw]
   refine ⟨10 - (i + 1), by omega, ?_, by repeat first | assumption | refine Fr.more ?_ _ | refine Fr.put ?_ _ _, by omega, rd', i + 1, rfl, by omega, rfl, s, hs, by first | omega | (simp only [next_more, next_put] at *; omega), ?_⟩
   ·repeat first | assumption | exact EXn.refl _ _ | refine EXn.more ?_ _ | refine EXn.put ?_ (by omega) _ | refine EX.trans ?_ (by assumption)
   ·rw [supL_f (depB_f hnd)]
    simp only [c_seq, RUNA, RUNB, zAd, zMo, zDi, zSu, zMu, zEq, zBe, zLe, zTo, fillS, wantG, vBox, Value.cells, one, putAt, s3]
    exact hO.mono (by repeat first | assumption | exact EXn.refl _ _ | refine EXn.more ?_ _ | refine EXn.put ?_ (by omega) _ | refine EX.trans ?_ (by assumption))
 ·have hd : decide ((i : Int) < 10) = false := by simp; omega
  obtain rfl : i = 10 := by omega
  simp only [c_seq, RUNA, RUNB, zAd, zMo, zDi, zSu, zMu, zEq, zBe, zLe, zTo, fillS, wantG, vBox, Value.cells, one, putAt, TYA, s1, s9, hd, hr]
  refine ⟨⟨s, hO.mono ?_⟩, ?_⟩
  ·repeat first | assumption | exact EXn.refl _ _ | refine EXn.more ?_ _ | refine EXn.put ?_ (by omega) _ | refine EX.trans ?_ (by assumption)
  ·repeat first | assumption | exact EXn.refl _ _ | refine EXn.more ?_ _ | refine EXn.put ?_ (by omega) _ | refine EX.trans ?_ (by assumption)
end Go.Proofs.Q
