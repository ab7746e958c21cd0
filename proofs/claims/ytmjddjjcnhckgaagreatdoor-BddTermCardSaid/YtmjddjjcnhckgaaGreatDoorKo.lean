import Derived.Test.YtmjddjjcnhckgaaGreatDoorKn
import Derived.Test.YtmjddjjcnhckgaaGreatDoorKh
set_option linter.unusedVariables false
set_option linter.unusedSimpArgs false
set_option linter.constructorNameAsVariable false
open Nat renaming reduceAdd → zAd, reduceMod → zMo, reduceDiv → zDi, reduceSub → zSu, reduceMul → zMu, reduceEqDiff → zEq, reduceBEq → zBe, reduceLeDiff → zLe, reduceShiftRight → zSh
open Int renaming reduceToNat → zTo
namespace Go.Proofs.Q
open Go.AI
inductive Dt where
 | leaf (b : Bool)
 | node (v : Nat) (lo hi : Dt)
 deriving DecidableEq
abbrev As := Nat → Bool
def Dt.ev : Dt → As → Bool
 | .leaf b, _ => b
 | .node v lo hi, f => if f v = true then hi.ev f else lo.ev f
def Dt.ok : Dt → Nat → Prop
 | .leaf _, _ => True
 | .node v lo hi, n => n ≤ v ∧ v < 10 ∧ lo ≠ hi ∧ lo.ok (v + 1) ∧ hi.ok (v + 1)
def Dt.size : Dt → Nat
 | .leaf _ => 1
 | .node _ lo hi => 1 + lo.size + hi.size
def upd (f : As) (v : Nat) (x : Bool) : As := fun i => if i = v then x else f i
theorem upd_self (f : As) (v : Nat) (x : Bool) : upd f v x v = x := by simp [upd]
theorem Dt.ok_mono : ∀ {t : Dt} {n m : Nat}, t.ok n → m ≤ n → t.ok m
 | .leaf _, _, _, _, _ => trivial
 | .node _ _ _, _, _, h, hm => ⟨Nat.le_trans hm h.1, h.2⟩
theorem Dt.ev_congr : ∀ {t : Dt} {n : Nat} {f g : As}, t.ok n → (∀ i, n ≤ i → i < 10 → f i = g i) → t.ev f = t.ev g := by
 intro t
 induction t with
 | leaf b => intro _ _ _ _ _; rfl
 | node v lo hi ih1 ih2 =>
  intro n f g h hv
  obtain ⟨h1, h2, _, h4, h5⟩ := h
  simp only [Dt.ev, hv v h1 h2, ih1 h4 (fun i h6 h7 => hv i (by omega) h7), ih2 h5 (fun i h6 h7 => hv i (by omega) h7)]
theorem Dt.ev_upd {t : Dt} {n v : Nat} {f : As} {x : Bool} (h : t.ok n) (hv : v < n) : t.ev (upd f v x) = t.ev f :=
 Dt.ev_congr h (fun i h1 _ => by simp only [upd]; rw [if_neg (by omega)])
theorem Dt.canon : ∀ (k : Nat) (a b : Dt) (n m : Nat), a.size + b.size ≤ k → a.ok n → b.ok m → (∀ f, a.ev f = b.ev f) → a = b := by
 intro k
 induction k with
 | zero => intro a b n m h; cases a <;> simp [Dt.size] at h <;> omega
 | succ k ih =>
  intro a b n m hs ha hb he
  have half : ∀ (v : Nat) (lo hi c : Dt) (q : Nat), lo.size + hi.size ≤ k → lo.ok (v + 1) → hi.ok (v + 1) → c.ok q → v < q → lo ≠ hi → (∀ f, (Dt.node v lo hi).ev f = c.ev f) → False := by
   intro v lo hi c q hs h1 h2 hc hq hne he
   refine hne (ih lo hi (v + 1) (v + 1) hs h1 h2 fun f => ?_)
   have e0 := he (upd f v false)
   have e1 := he (upd f v true)
   rw [Dt.ev_upd hc hq] at e0 e1
   simp only [Dt.ev, upd_self, Bool.false_eq_true, if_false, if_true] at e0 e1
   rw [Dt.ev_upd h1 (by omega)] at e0
   rw [Dt.ev_upd h2 (by omega)] at e1
   rw [e0, e1]
  cases a with
  | leaf x =>
   cases b with
   | leaf y => have := he (fun _ => false); simp only [Dt.ev] at this; rw [this]
   | node v lo hi =>
    simp only [Dt.size] at hs
    exact (half v lo hi (.leaf x) (v + 1) (by omega) hb.2.2.2.1 hb.2.2.2.2 trivial (by omega) hb.2.2.1 (fun f => (he f).symm)).elim
  | node v lo hi =>
   simp only [Dt.size] at hs
   have hlo : 1 ≤ lo.size := by cases lo <;> simp only [Dt.size] <;> omega
   have hhi : 1 ≤ hi.size := by cases hi <;> simp only [Dt.size] <;> omega
   cases b with
   | leaf y => exact (half v lo hi (.leaf y) (v + 1) (by simp only [Dt.size] at hs; omega) ha.2.2.2.1 ha.2.2.2.2 trivial (by omega) ha.2.2.1 he).elim
   | node w lo' hi' =>
    simp only [Dt.size] at hs
    have hlo' : 1 ≤ lo'.size := by cases lo' <;> simp only [Dt.size] <;> omega
    have hhi' : 1 ≤ hi'.size := by cases hi' <;> simp only [Dt.size] <;> omega
    rcases Nat.lt_trichotomy v w with hvw | hvw | hvw
    ·exact (half v lo hi (.node w lo' hi') w (by omega) ha.2.2.2.1 ha.2.2.2.2 ⟨Nat.le_refl _, hb.2⟩ hvw ha.2.2.1 he).elim
    ·subst hvw
     have e1 : lo = lo' := ih lo lo' (v + 1) (v + 1) (by omega) ha.2.2.2.1 hb.2.2.2.1 fun f => by
      have := he (upd f v false)
      simp only [Dt.ev, upd_self, Bool.false_eq_true, if_false] at this
      rwa [Dt.ev_upd ha.2.2.2.1 (by omega), Dt.ev_upd hb.2.2.2.1 (by omega)] at this
     have e2 : hi = hi' := ih hi hi' (v + 1) (v + 1) (by omega) ha.2.2.2.2 hb.2.2.2.2 fun f => by
      have := he (upd f v true)
      simp only [Dt.ev, upd_self, if_true] at this
      rwa [Dt.ev_upd ha.2.2.2.2 (by omega), Dt.ev_upd hb.2.2.2.2 (by omega)] at this
     rw [e1, e2]
    ·exact (half w lo' hi' (.node v lo hi) v (by omega) hb.2.2.2.1 hb.2.2.2.2 ⟨Nat.le_refl _, ha.2⟩ hvw hb.2.2.1 (fun f => (he f).symm)).elim
theorem Dt.uniq {a b : Dt} {n m : Nat} (ha : a.ok n) (hb : b.ok m) (he : ∀ f, a.ev f = b.ev f) : a = b := Dt.canon _ a b n m (Nat.le_refl _) ha hb he
structure Gd (l : List Vtx) : Prop where
 len : 2 ≤ l.length
 var : ∀ k, 2 ≤ k → k < l.length → 0 ≤ (vx l k).1 ∧ (vx l k).1 < 10
 lo : ∀ k : Nat, 2 ≤ k → k < l.length → 0 ≤ (vx l k).2.1 ∧ (vx l k).2.1 < (k : Int)
 hi : ∀ k : Nat, 2 ≤ k → k < l.length → 0 ≤ (vx l k).2.2 ∧ (vx l k).2.2 < (k : Int)
 ne : ∀ k, 2 ≤ k → k < l.length → (vx l k).2.1 ≠ (vx l k).2.2
 olo : ∀ k, 2 ≤ k → k < l.length → 1 < (vx l k).2.1 → (vx l k).1 < (vx l (vx l k).2.1.toNat).1
 ohi : ∀ k, 2 ≤ k → k < l.length → 1 < (vx l k).2.2 → (vx l k).1 < (vx l (vx l k).2.2.toNat).1
 uq : ∀ j k, 2 ≤ j → j < l.length → 2 ≤ k → k < l.length → vx l j = vx l k → j = k
def Rep (l : List Vtx) : Dt → Int → Prop
 | .leaf b, i => i = if b = true then 1 else 0
 | .node v lo hi, i => ∃ k : Nat, i = (k : Int) ∧ 2 ≤ k ∧ k < l.length ∧ (vx l k).1 = (v : Int) ∧ Rep l lo (vx l k).2.1 ∧ Rep l hi (vx l k).2.2
theorem vx_app {l r : List Vtx} {k : Nat} (h : k < l.length) : vx (l ++ r) k = vx l k := by
 unfold vx; rw [List.getD_eq_getElem?_getD, List.getD_eq_getElem?_getD, List.getElem?_append_left h]
theorem vx_last {l : List Vtx} {x : Vtx} : vx (l ++ [x]) l.length = x := by simp [vx]
theorem Rep.mono {l r : List Vtx} : ∀ {t : Dt} {i : Int}, Rep l t i → Rep (l ++ r) t i := by
 intro t
 induction t with
 | leaf b => intro i h; exact h
 | node v lo hi ih1 ih2 =>
  rintro i ⟨k, h1, h2, h3, h4, h5, h6⟩
  refine ⟨k, h1, h2, by simp; omega, ?_, ?_, ?_⟩
  ·rw [vx_app h3]; exact h4
  ·rw [vx_app h3]; exact ih1 h5
  ·rw [vx_app h3]; exact ih2 h6
theorem Rep.lt {l : List Vtx} (hl : 2 ≤ l.length) : ∀ {t : Dt} {i : Int}, Rep l t i → 0 ≤ i ∧ i < (l.length : Int)
 | .leaf b, i, h => by simp only [Rep] at h; subst h; split <;> omega
 | .node v lo hi, i, ⟨k, h1, h2, h3, _⟩ => by omega
theorem Rep.fn {l : List Vtx} : ∀ {t u : Dt} {i : Int}, Rep l t i → Rep l u i → t = u := by
 intro t
 induction t with
 | leaf b =>
  intro u i h1 h2
  cases u with
  | leaf c => simp only [Rep] at h1 h2; rw [h1] at h2; cases b <;> cases c <;> simp at h2 ⊢
  | node v lo hi => obtain ⟨k, h3, h4, _⟩ := h2; simp only [Rep] at h1; rw [h3] at h1; split at h1 <;> omega
 | node v lo hi ih1 ih2 =>
  rintro u i ⟨k, h1, h2, h3, h4, h5, h6⟩ hu
  cases u with
  | leaf c => simp only [Rep] at hu; rw [h1] at hu; split at hu <;> omega
  | node v' lo' hi' =>
   obtain ⟨k', g1, g2, g3, g4, g5, g6⟩ := hu
   obtain rfl : k = k' := by omega
   rw [ih1 h5 g5, ih2 h6 g6]
   have : v = v' := by rw [h4] at g4; omega
   rw [this]
theorem Rep.inj {l : List Vtx} (g : Gd l) : ∀ {t : Dt} {i j : Int}, Rep l t i → Rep l t j → i = j := by
 intro t
 induction t with
 | leaf b => intro i j h1 h2; simp only [Rep] at h1 h2; rw [h1, h2]
 | node v lo hi ih1 ih2 =>
  rintro i j ⟨k, h1, h2, h3, h4, h5, h6⟩ ⟨k', g1, g2, g3, g4, g5, g6⟩
  have e1 := ih1 h5 g5
  have e2 := ih2 h6 g6
  have : k = k' := g.uq k k' h2 h3 g2 g3 (Prod.ext (by rw [h4, g4]) (Prod.ext e1 e2))
  rw [h1, g1, this]
def lvl (l : List Vtx) (i : Nat) : Nat := if i < 2 then 10 else (vx l i).1.toNat
theorem Rep.ex {l : List Vtx} (g : Gd l) : ∀ k : Nat, k < l.length → ∃ t, Rep l t k ∧ t.ok (lvl l k) := by
 intro k
 induction k using Nat.strongRecOn with
 | _ k ih =>
  intro hk
  by_cases h2 : k < 2
  ·refine ⟨.leaf (k == 1), ?_, trivial⟩
   simp only [Rep]
   obtain rfl | rfl : k = 0 ∨ k = 1 := by omega
   ·rfl
   ·rfl
  ·have hv := g.var k (by omega) hk
   have hl := g.lo k (by omega) hk
   have hh := g.hi k (by omega) hk
   obtain ⟨t1, r1, o1⟩ := ih (vx l k).2.1.toNat (by omega) (by omega)
   obtain ⟨t2, r2, o2⟩ := ih (vx l k).2.2.toNat (by omega) (by omega)
   rw [Int.toNat_of_nonneg hl.1] at r1
   rw [Int.toNat_of_nonneg hh.1] at r2
   refine ⟨.node (vx l k).1.toNat t1 t2, ⟨k, rfl, by omega, hk, by omega, r1, r2⟩, ?_⟩
   have hlk : lvl l k = (vx l k).1.toNat := by simp [lvl, h2]
   refine ⟨by omega, by omega, ?_, Dt.ok_mono o1 ?_, Dt.ok_mono o2 ?_⟩
   ·intro e; subst e; exact g.ne k (by omega) hk (Rep.inj g r1 r2)
   ·unfold lvl
    split
    ·omega
    ·have := g.olo k (by omega) hk (by omega); omega
   ·unfold lvl
    split
    ·omega
    ·have := g.ohi k (by omega) hk (by omega); omega
theorem fndL_spec (x : Vtx) : ∀ (l : List Vtx), fndL x l < l.length → vx l (fndL x l) = x := by
 intro l
 induction l with
 | nil => intro h; simp [fndL] at h
 | cons y l ih =>
  intro h
  simp only [fndL] at h ⊢
  split
  ·rename_i e; simp [vx, e]
  ·rename_i e
   rw [if_neg e] at h
   have := ih (by simp at h; omega)
   rw [Nat.add_comm]; simpa [vx] using this
theorem fndL_none (x : Vtx) : ∀ (l : List Vtx), ¬ fndL x l < l.length → ∀ j, j < l.length → vx l j ≠ x := by
 intro l
 induction l with
 | nil => intro _ j h; simp at h
 | cons y l ih =>
  intro h j hj
  simp only [fndL] at h
  split at h
  ·simp at h
  ·rename_i e
   cases j with
   | zero => simpa [vx] using e
   | succ j => have := ih (by simp at h; omega) j (by simpa using hj); simpa [vx] using this
theorem fnd_spec {x : Vtx} {l : List Vtx} (h : fnd x l < l.length) : 2 ≤ fnd x l ∧ vx l (fnd x l) = x := by
 unfold fnd at h ⊢
 have := fndL_spec x (l.drop 2) (by rw [List.length_drop]; omega)
 rw [vx_drop] at this
 exact ⟨by omega, by rw [Nat.add_comm]; exact this⟩
theorem fnd_none {x : Vtx} {l : List Vtx} (h : ¬ fnd x l < l.length) : ∀ j, 2 ≤ j → j < l.length → vx l j ≠ x := by
 intro j h2 hj
 unfold fnd at h
 have := fndL_none x (l.drop 2) (by rw [List.length_drop]; omega) (j - 2) (by rw [List.length_drop]; omega)
 rwa [vx_drop, show j - 2 + 2 = j by omega] at this
theorem fnd_len {x : Vtx} {l : List Vtx} (hl : 2 ≤ l.length) (h : ¬ fnd x l < l.length) : fnd x l = l.length := fnd_miss hl (fnd_none h)
def num : Dt → List Vtx → Int × List Vtx
 | .leaf b, l => (if b = true then 1 else 0, l)
 | .node v lo hi, l =>
  let a := num lo l
  let b := num hi a.2
  let x : Vtx := ((v : Int), a.1, b.1)
  ((fnd x b.2 : Int), if fnd x b.2 < b.2.length then b.2 else b.2 ++ [x])
theorem Rep.root {l : List Vtx} {t : Dt} {i : Int} {n : Nat} (h : Rep l t i) (ho : t.ok n) (hi : 1 < i) : (n : Int) ≤ (vx l i.toNat).1 := by
 cases t with
 | leaf b => simp only [Rep] at h; rw [h] at hi; split at hi <;> omega
 | node v lo hi' => obtain ⟨k, h1, h2, h3, h4, _⟩ := h; rw [h1, Int.toNat_natCast, h4]; have := ho.1; omega
theorem Gd.snoc {l : List Vtx} (g : Gd l) {v : Nat} {a b : Int} {t u : Dt} (hv : v < 10) (ha : Rep l t a) (hb : Rep l u b) (ht : t.ok (v + 1)) (hu : u.ok (v + 1)) (hne : a ≠ b) (hx : ¬ fnd ((v : Int), a, b) l < l.length) : Gd (l ++ [((v : Int), a, b)]) := by
 have la := Rep.lt g.len ha
 have lb := Rep.lt g.len hb
 have ln : (l ++ [((v : Int), a, b)]).length = l.length + 1 := by simp
 have cs : ∀ k, 2 ≤ k → k < (l ++ [((v : Int), a, b)]).length → (k < l.length ∧ vx (l ++ [((v : Int), a, b)]) k = vx l k) ∨ (k = l.length ∧ vx (l ++ [((v : Int), a, b)]) k = ((v : Int), a, b)) := by
  intro k _ hk
  by_cases h : k < l.length
  ·exact Or.inl ⟨h, vx_app h⟩
  ·have : k = l.length := by omega
   subst this
   exact Or.inr ⟨rfl, vx_last⟩
 refine ⟨by have := g.len; omega, ?_, ?_, ?_, ?_, ?_, ?_, ?_⟩
 ·intro k h2 hk
  rcases cs k h2 hk with ⟨h, e⟩ | ⟨h, e⟩ <;> rw [e]
  ·exact g.var k h2 h
  ·simp only; omega
 ·intro k h2 hk
  rcases cs k h2 hk with ⟨h, e⟩ | ⟨h, e⟩ <;> rw [e]
  ·exact g.lo k h2 h
  ·simp only; omega
 ·intro k h2 hk
  rcases cs k h2 hk with ⟨h, e⟩ | ⟨h, e⟩ <;> rw [e]
  ·exact g.hi k h2 h
  ·simp only; omega
 ·intro k h2 hk
  rcases cs k h2 hk with ⟨h, e⟩ | ⟨h, e⟩ <;> rw [e]
  ·exact g.ne k h2 h
  ·exact hne
 ·intro k h2 hk h1
  rcases cs k h2 hk with ⟨h, e⟩ | ⟨h, e⟩ <;> rw [e] at h1 ⊢
  ·have := g.lo k h2 h; rw [vx_app (by omega)]; exact g.olo k h2 h h1
  ·simp only at h1 ⊢; rw [vx_app (by omega)]; have := Rep.root ha ht h1; omega
 ·intro k h2 hk h1
  rcases cs k h2 hk with ⟨h, e⟩ | ⟨h, e⟩ <;> rw [e] at h1 ⊢
  ·have := g.hi k h2 h; rw [vx_app (by omega)]; exact g.ohi k h2 h h1
  ·simp only at h1 ⊢; rw [vx_app (by omega)]; have := Rep.root hb hu h1; omega
 ·intro j k hj1 hj hk1 hk e
  rcases cs j hj1 hj with ⟨h, e1⟩ | ⟨h, e1⟩ <;> rcases cs k hk1 hk with ⟨h', e2⟩ | ⟨h', e2⟩
  ·rw [e1, e2] at e; exact g.uq j k hj1 h hk1 h' e
  ·rw [e1, e2] at e; exact (fnd_none hx j hj1 h e).elim
  ·rw [e1, e2] at e; exact (fnd_none hx k hk1 h' e.symm).elim
  ·omega
def put (x : Vtx) (l : List Vtx) : List Vtx := if fnd x l < l.length then l else l ++ [x]
theorem put_ok {l : List Vtx} (g : Gd l) {v : Nat} {a b : Int} {t u : Dt} (hv : v < 10) (ha : Rep l t a) (hb : Rep l u b) (ht : t.ok (v + 1)) (hu : u.ok (v + 1)) (hne : t ≠ u) :
    Gd (put ((v : Int), a, b) l) ∧ Rep (put ((v : Int), a, b) l) (.node v t u) (fnd ((v : Int), a, b) l : Int) ∧ ∃ r, put ((v : Int), a, b) l = l ++ r := by
 unfold put
 split
 ·rename_i h
  obtain ⟨h1, h2⟩ := fnd_spec h
  exact ⟨g, ⟨_, rfl, h1, h, by rw [h2], by rw [h2]; exact ha, by rw [h2]; exact hb⟩, [], by simp⟩
 ·rename_i h
  have hl := fnd_len g.len h
  refine ⟨g.snoc hv ha hb ht hu (fun e => hne (by subst e; exact ha.fn hb)) h, ⟨l.length, by rw [hl], g.len, by simp, ?_, ?_, ?_⟩, [_], rfl⟩
  ·rw [vx_last]
  ·rw [vx_last]; exact ha.mono
  ·rw [vx_last]; exact hb.mono
theorem num_node (v : Nat) (lo hi : Dt) (l : List Vtx) : num (.node v lo hi) l = ((fnd ((v : Int), (num lo l).1, (num hi (num lo l).2).1) (num hi (num lo l).2).2 : Int), put ((v : Int), (num lo l).1, (num hi (num lo l).2).1) (num hi (num lo l).2).2) := rfl
theorem num_ok : ∀ (t : Dt) (l : List Vtx) (n : Nat), Gd l → t.ok n → Gd (num t l).2 ∧ Rep (num t l).2 t (num t l).1 ∧ ∃ r, (num t l).2 = l ++ r := by
 intro t
 induction t with
 | leaf b => intro l n g _; exact ⟨g, rfl, [], by simp [num]⟩
 | node v lo hi ih1 ih2 =>
  intro l n g ho
  obtain ⟨g1, r1, s1, e1⟩ := ih1 l (v + 1) g ho.2.2.2.1
  obtain ⟨g2, r2, s2, e2⟩ := ih2 (num lo l).2 (v + 1) g1 ho.2.2.2.2
  have r1' : Rep (num hi (num lo l).2).2 lo (num lo l).1 := by rw [e2]; exact r1.mono
  obtain ⟨g3, r3, s3, e3⟩ := put_ok g2 ho.2.1 r1' r2 ho.2.2.2.1 ho.2.2.2.2 ho.2.2.1
  rw [num_node]
  refine ⟨g3, r3, s1 ++ s2 ++ s3, ?_⟩
  simp only [e3]
  rw [e2, e1]; simp
theorem num_id {l : List Vtx} (g : Gd l) : ∀ (t : Dt) (i : Int), Rep l t i → num t l = (i, l) := by
 intro t
 induction t with
 | leaf b => intro i h; simp only [Rep] at h; rw [h]; rfl
 | node v lo hi ih1 ih2 =>
  rintro i ⟨k, h1, h2, h3, h4, h5, h6⟩
  have e1 := ih1 _ h5
  have e2 := ih2 _ h6
  rw [num_node, e1, e2, ← h4]
  have : fnd (vx l k) l = k := fnd_hit h2 (fun q q1 q2 e => by have := g.uq q k q1 (by omega) h2 h3 e; omega) rfl h3
  have e3 : ((vx l k).1, (vx l k).2.1, (vx l k).2.2) = vx l k := rfl
  simp only [e3, this, put, h3, if_true, h1]
theorem num_len : ∀ (t : Dt) (l : List Vtx) (n : Nat), t.ok n → n ≤ 10 → (num t l).2.length + 1 ≤ l.length + 2 ^ (10 - n) := by
 intro t
 induction t with
 | leaf b => intro l n _ _; simp only [num]; have := Nat.two_pow_pos (10 - n); omega
 | node v lo hi ih1 ih2 =>
  intro l n ho hn
  have h1 := ih1 l (v + 1) ho.2.2.2.1 (by have := ho.2.1; omega)
  have h2 := ih2 (num lo l).2 (v + 1) ho.2.2.2.2 (by have := ho.2.1; omega)
  have hv := ho.2.1
  have hp : 2 ^ (10 - v) = 2 * 2 ^ (10 - (v + 1)) := by rw [show 10 - v = (10 - (v + 1)) + 1 by omega, Nat.pow_succ]; omega
  have hq : 2 ^ (10 - v) ≤ 2 ^ (10 - n) := Nat.pow_le_pow_right (by decide) (by have := ho.1; omega)
  rw [num_node]
  simp only [put]
  split <;> (try simp only [List.length_append, List.length_cons, List.length_nil]) <;> omega
def cd (t : Dt) : List Vtx × Int := ((num t c01).2, (num t c01).1)
theorem gd01 : Gd c01 := by
 have h : c01.length = 2 := rfl
 exact ⟨by omega, fun k _ _ => by omega, fun k _ _ => by omega, fun k _ _ => by omega, fun k _ _ => by omega, fun k _ _ => by omega, fun k _ _ => by omega, fun j k _ _ _ _ => by omega⟩
theorem cd_len {t : Dt} {n : Nat} (h : t.ok n) (hn : n ≤ 10) : (cd t).1.length ≤ 1025 := by
 have := num_len t c01 n h hn
 have h2 : 2 ^ (10 - n) ≤ 2 ^ 10 := Nat.pow_le_pow_right (by decide) (by omega)
 have h3 : c01.length = 2 := rfl
 simp only [cd]; omega
def red : Nat → List Bool → Dt
 | 0, t => .leaf (bt t 0)
 | k + 1, t => if red k (t.take (2 ^ k)) = red k (t.drop (2 ^ k)) then red k (t.take (2 ^ k)) else .node (9 - k) (red k (t.take (2 ^ k))) (red k (t.drop (2 ^ k)))
theorem bt_take {t : List Bool} {n j : Nat} (h : j < n) : bt (t.take n) j = bt t j := by
 unfold bt; rw [List.getD_eq_getElem?_getD, List.getD_eq_getElem?_getD, List.getElem?_take, if_pos h]
theorem bt_drop {t : List Bool} {n j : Nat} : bt (t.drop n) j = bt t (n + j) := by
 unfold bt; rw [List.getD_eq_getElem?_getD, List.getD_eq_getElem?_getD, List.getElem?_drop]
theorem red_same : ∀ (k : Nat) (t : List Bool), (∀ j, j < 2 ^ k → bt t j = bt t 0) → red k t = .leaf (bt t 0) := by
 intro k
 induction k with
 | zero => intro t _; rfl
 | succ k ih =>
  intro t h
  have hp := Nat.two_pow_pos k
  rw [Nat.pow_succ] at h
  have e1 := ih (t.take (2 ^ k)) (fun j hj => by rw [bt_take hj, bt_take hp]; exact h j (by omega))
  have e2 := ih (t.drop (2 ^ k)) (fun j hj => by rw [bt_drop, bt_drop, h (2 ^ k + j) (by omega), h (2 ^ k + 0) (by omega)])
  rw [bt_take hp] at e1
  rw [bt_drop, h (2 ^ k + 0) (by omega)] at e2
  simp only [red, e1, e2, if_true]
theorem red_ok : ∀ (k : Nat) (t : List Bool), k ≤ 10 → (red k t).ok (10 - k) := by
 intro k
 induction k with
 | zero => intro t _; trivial
 | succ k ih =>
  intro t hk
  simp only [red]
  split
  ·exact Dt.ok_mono (ih _ (by omega)) (by omega)
  ·rename_i h
   exact ⟨by omega, by omega, h, Dt.ok_mono (ih _ (by omega)) (by omega), Dt.ok_mono (ih _ (by omega)) (by omega)⟩
theorem bld_num : ∀ (k : Nat) (t : List Bool) (l : List Vtx), k ≤ 10 → t.length = 2 ^ k → Gd l → bld k t l = num (red k t) l := by
 intro k
 induction k with
 | zero => intro t l _ _ _; rfl
 | succ k ih =>
  intro t l hk hlen g
  have hp : 2 ^ (k + 1) = 2 * 2 ^ k := by rw [Nat.pow_succ]; omega
  by_cases hs : allSame t = true
  ·rw [bld_same hs]
   have hs' : ∀ j, j < t.length → bt t j = bt t 0 := by simpa [allSame] using hs
   rw [red_same (k + 1) t (fun j hj => hs' j (by omega))]; rfl
  ·have h1 := ih (t.take (2 ^ k)) l (by omega) (by simp; omega) g
   obtain ⟨g1, r1, s1, e1⟩ := num_ok (red k (t.take (2 ^ k))) l _ g (red_ok k _ (by omega))
   have h2 := ih (t.drop (2 ^ k)) (num (red k (t.take (2 ^ k))) l).2 (by omega) (by simp; omega) g1
   obtain ⟨g2, r2, s2, e2⟩ := num_ok (red k (t.drop (2 ^ k))) _ _ g1 (red_ok k _ (by omega))
   have hs0 : allSame t = false := by simpa using hs
   simp only [bld, hs0, Bool.false_eq_true, if_false, h1, h2, red]
   by_cases he : red k (t.take (2 ^ k)) = red k (t.drop (2 ^ k))
   ·rw [if_pos he, ← he, num_id g1 _ _ r1]; simp
   ·have r1' : Rep (num (red k (t.drop (2 ^ k))) (num (red k (t.take (2 ^ k))) l).2).2 (red k (t.take (2 ^ k))) (num (red k (t.take (2 ^ k))) l).1 := by rw [e2]; exact r1.mono
    have hne : (num (red k (t.take (2 ^ k))) l).1 ≠ (num (red k (t.drop (2 ^ k))) (num (red k (t.take (2 ^ k))) l).2).1 := fun e => he (r1'.fn (by rw [e]; exact r2))
    rw [if_neg he, if_neg hne, num_node, put, show ((9 - k : Nat) : Int) = 9 - (k : Int) by omega]
def idx (f : As) : Nat → Nat
 | 0 => 0
 | k + 1 => if f (9 - k) = true then 2 ^ k + idx f k else idx f k
theorem idx_lt (f : As) : ∀ k, idx f k < 2 ^ k := by
 intro k
 induction k with
 | zero => simp [idx]
 | succ k ih => simp only [idx]; rw [Nat.pow_succ]; split <;> omega
theorem red_ev (f : As) : ∀ (k : Nat) (t : List Bool), k ≤ 10 → (red k t).ev f = bt t (idx f k) := by
 intro k
 induction k with
 | zero => intro t _; rfl
 | succ k ih =>
  intro t hk
  have e1 := ih (t.take (2 ^ k)) (by omega)
  have e2 := ih (t.drop (2 ^ k)) (by omega)
  rw [bt_take (idx_lt f k)] at e1
  rw [bt_drop] at e2
  simp only [red, idx]
  split
  ·rename_i h
   split
   ·rw [h, e2]
   ·exact e1
  ·simp only [Dt.ev]
   split
   ·exact e2
   ·exact e1
def bits (n : Nat) : As := fun i => bitF i n
theorem idx_congr {f g : As} : ∀ k, k ≤ 10 → (∀ i, i < 10 → f i = g i) → idx f k = idx g k := by
 intro k
 induction k with
 | zero => intro _ _; rfl
 | succ k ih => intro hk h; simp only [idx, h (9 - k) (by omega), ih (by omega) h]
def code (f : As) : Nat := rv (idx f 10) 10
theorem code_lt (f : As) : code f < 1024 := rv_lt _ 10
theorem rv_bit_all : (List.range 1024).all (fun n => (List.range 10).all fun i => bitF i (rv n 10) == bitF (9 - i) n) = true := by kernel_rfl
theorem rv_bit {n i : Nat} (h : n < 1024) (hi : i < 10) : bitF i (rv n 10) = bitF (9 - i) n := by
 have := List.all_eq_true.1 (List.all_eq_true.1 rv_bit_all n (List.mem_range.2 h)) i (List.mem_range.2 hi)
 simpa using this
theorem bitF_eq (i n : Nat) : bitF i n = n.testBit i := by
 rw [bitF, Nat.testBit_eq_decide_div_mod_eq]
 by_cases h : n / 2 ^ i % 2 = 1
 ·rw [h]; rfl
 ·have : n / 2 ^ i % 2 = 0 := by omega
  rw [this]; rfl
theorem idx_bit (f : As) : ∀ (k : Nat), k ≤ 10 → ∀ j, j < k → (idx f k).testBit j = f (9 - j) := by
 intro k
 induction k with
 | zero => intro _ j hj; omega
 | succ k ih =>
  intro hk j hj
  simp only [idx]
  by_cases hjk : j = k
  ·subst hjk
   split
   ·rename_i h; rw [Nat.testBit_two_pow_add_eq, Nat.testBit_lt_two_pow (idx_lt f j), h]; rfl
   ·rename_i h; rw [Nat.testBit_lt_two_pow (idx_lt f j)]; simpa using h
  ·split
   ·rw [Nat.testBit_two_pow_add_gt (by omega)]; exact ih (by omega) j (by omega)
   ·exact ih (by omega) j (by omega)
theorem bits_code (f : As) {i : Nat} (hi : i < 10) : bits (code f) i = f i := by
 have h := rv_bit (n := idx f 10) (i := i) (idx_lt f 10) hi
 rw [bits, code, h, bitF_eq, idx_bit f 10 (by omega) (9 - i) (by omega)]
 congr 1; omega
theorem tt_ex (t : List Bool) : ∃ T : Dt, T = red 10 (turn t 1024) := ⟨_, rfl⟩
noncomputable def tt (t : List Bool) : Dt := (tt_ex t).choose
theorem tt_eq (t : List Bool) : tt t = red 10 (turn t 1024) := (tt_ex t).choose_spec
theorem tt_ok (t : List Bool) : (tt t).ok 0 := by
 obtain ⟨k, hk⟩ : ∃ k, k = 10 := ⟨_, rfl⟩
 rw [tt_eq, ← hk]
 exact Dt.ok_mono (red_ok k _ (by omega)) (by omega)
theorem tt_ev (t : List Bool) (f : As) : (tt t).ev f = bt t (code f) := by
 rw [tt_eq, red_ev f 10 _ (Nat.le_refl _), bt_turn t _ (idx_lt f 10) 1024 (Nat.le_refl _), if_pos (rv_lt _ 10)]; rfl
theorem dgm_cd (t : List Bool) : dgm t = cd (tt t) := by
 rw [dgm_eq, bld_num 10 _ c01 (Nat.le_refl _) (turn_len t 1024) gd01, ← tt_eq]; rfl
end Go.Proofs.Q
namespace Go.Proofs.Q
open Go.AI
def ordT (l : List Vtx) : Dt → Int → List Int → List Int
 | .leaf _, _, dn => dn
 | .node _ lo hi, i, dn => if i ∈ dn then dn else ordT l hi (vx l i.toNat).2.2 (ordT l lo (vx l i.toNat).2.1 dn) ++ [i]
def rng (n : Nat) : List Int := (List.range n).map fun (k : Nat) => (k : Int) + 2
theorem rng_len (n : Nat) : (rng n).length = n := by simp [rng]
theorem rng_s (n : Nat) : rng (n + 1) = rng n ++ [(n : Int) + 2] := by simp [rng, List.range_succ]
theorem mem_rng {n : Nat} {i : Int} : i ∈ rng n ↔ 2 ≤ i ∧ i < (n : Int) + 2 := by
 simp only [rng, List.mem_map, List.mem_range]
 constructor
 ·rintro ⟨k, h, rfl⟩; omega
 ·intro h; exact ⟨(i - 2).toNat, by omega, by omega⟩
theorem rng_take (n q : Nat) : (rng n).take q = rng (min q n) := by simp [rng, ← List.map_take, List.take_range]
theorem ordT_app (l : List Vtx) : ∀ (t : Dt) (i : Int) (dn : List Int), ∃ s, ordT l t i dn = dn ++ s := by
 intro t
 induction t with
 | leaf b => intro i dn; exact ⟨[], by simp [ordT]⟩
 | node v lo hi ih1 ih2 =>
  intro i dn
  simp only [ordT]
  split
  ·exact ⟨[], by simp⟩
  ·obtain ⟨s1, e1⟩ := ih1 (vx l i.toNat).2.1 dn
   obtain ⟨s2, e2⟩ := ih2 (vx l i.toNat).2.2 (ordT l lo (vx l i.toNat).2.1 dn)
   exact ⟨s1 ++ s2 ++ [i], by rw [e2, e1]; simp⟩
theorem Rep.pre {l r : List Vtx} (g : Gd l) {t : Dt} {k : Nat} (h : Rep (l ++ r) t k) (hk : k < l.length) : Rep l t k := by
 obtain ⟨u, h1, _⟩ := Rep.ex g k hk
 rw [Rep.fn h h1.mono]; exact h1
theorem num_new : ∀ (t : Dt) (l : List Vtx) (n : Nat), Gd l → t.ok n → ∀ k : Nat, l.length ≤ k → k < (num t l).2.length → ∀ u, Rep (num t l).2 u k → u.size ≤ t.size := by
 intro t
 induction t with
 | leaf b => intro l n _ _ k h1 h2; simp only [num] at h2; omega
 | node v lo hi ih1 ih2 =>
  intro l n g ho k h1 h2 u hu
  obtain ⟨g1, r1, s1, e1⟩ := num_ok lo l (v + 1) g ho.2.2.2.1
  obtain ⟨g2, r2, s2, e2⟩ := num_ok hi (num lo l).2 (v + 1) g1 ho.2.2.2.2
  obtain ⟨g3, r3, s3, e3⟩ := num_ok (.node v lo hi) l n g ho
  have r1' : Rep (num hi (num lo l).2).2 lo (num lo l).1 := by rw [e2]; exact r1.mono
  obtain ⟨_, r4, s4, e4⟩ := put_ok g2 ho.2.1 r1' r2 ho.2.2.2.1 ho.2.2.2.2 ho.2.2.1
  simp only [num_node] at hu h2
  rw [e4] at hu
  by_cases q1 : k < (num lo l).2.length
  ·have : Rep (num lo l).2 u k := by rw [e2, List.append_assoc] at hu; exact hu.pre g1 q1
   have := ih1 l (v + 1) g ho.2.2.2.1 k h1 q1 u this
   simp only [Dt.size]; omega
  ·by_cases q2 : k < (num hi (num lo l).2).2.length
   ·have := ih2 _ (v + 1) g1 ho.2.2.2.2 k (by omega) q2 u (hu.pre g2 q2)
    simp only [Dt.size]; omega
   ·have hm : ¬ fnd ((v : Int), (num lo l).1, (num hi (num lo l).2).1) (num hi (num lo l).2).2 < (num hi (num lo l).2).2.length := by
     intro h; rw [put, if_pos h] at h2; omega
    have hl := fnd_len g2.len hm
    rw [put, if_neg hm, List.length_append, List.length_cons, List.length_nil] at h2
    have : k = fnd ((v : Int), (num lo l).1, (num hi (num lo l).2).1) (num hi (num lo l).2).2 := by omega
    rw [← e4, this] at hu
    rw [Rep.fn hu r4]; exact Nat.le_refl _
theorem num_root {v : Nat} {lo hi : Dt} {l : List Vtx} {n : Nat} (g : Gd l) (ho : (Dt.node v lo hi).ok n) (h : (l.length : Int) ≤ (num (.node v lo hi) l).1) :
    ¬ fnd ((v : Int), (num lo l).1, (num hi (num lo l).2).1) (num hi (num lo l).2).2 < (num hi (num lo l).2).2.length := by
 obtain ⟨g1, r1, s1, e1⟩ := num_ok lo l (v + 1) g ho.2.2.2.1
 obtain ⟨g2, r2, s2, e2⟩ := num_ok hi (num lo l).2 (v + 1) g1 ho.2.2.2.2
 have r1' : Rep (num hi (num lo l).2).2 lo (num lo l).1 := by rw [e2]; exact r1.mono
 obtain ⟨_, r4, s4, e4⟩ := put_ok g2 ho.2.1 r1' r2 ho.2.2.2.1 ho.2.2.2.2 ho.2.2.1
 intro hf
 simp only [num_node] at h
 rw [put, if_pos hf] at r4
 generalize hk : fnd ((v : Int), (num lo l).1, (num hi (num lo l).2).1) (num hi (num lo l).2).2 = k at *
 by_cases q : k < (num lo l).2.length
 ·have : Rep (num lo l).2 (.node v lo hi) k := by rw [e2] at r4; exact r4.pre g1 q
  have := num_new lo l (v + 1) g ho.2.2.2.1 k (by omega) q _ this
  simp only [Dt.size] at this; omega
 ·have := num_new hi _ (v + 1) g1 ho.2.2.2.2 k (by omega) hf _ r4
  simp only [Dt.size] at this; omega
theorem ord_num : ∀ (t : Dt) (L r : List Vtx) (n : Nat), Gd L → t.ok n → ordT ((num t L).2 ++ r) t (num t L).1 (rng (L.length - 2)) = rng ((num t L).2.length - 2) := by
 intro t
 induction t with
 | leaf b => intro L r n _ _; rfl
 | node v lo hi ih1 ih2 =>
  intro L r n g ho
  obtain ⟨g1, r1, s1, e1⟩ := num_ok lo L (v + 1) g ho.2.2.2.1
  obtain ⟨g2, r2, s2, e2⟩ := num_ok hi (num lo L).2 (v + 1) g1 ho.2.2.2.2
  obtain ⟨g3, r3, s3, e3⟩ := num_ok (.node v lo hi) L n g ho
  have hlt := Rep.lt g3.len r3
  have hg := g.len
  by_cases hin : (num (.node v lo hi) L).1 < (L.length : Int)
  ·obtain ⟨k, hk⟩ : ∃ k : Nat, (num (.node v lo hi) L).1 = k := ⟨_, (Int.toNat_of_nonneg hlt.1).symm⟩
   have h2 : 2 ≤ k := by obtain ⟨k', h1, h2, _⟩ := r3; omega
   have hr : Rep L (.node v lo hi) k := by rw [e3, hk] at r3; exact r3.pre g (by omega)
   have := num_id g _ _ hr
   rw [this]
   simp only [ordT]
   rw [if_pos (mem_rng.2 (by omega))]
  ·have hm := num_root g ho (by omega)
   have hl := fnd_len g2.len hm
   have hq : num (.node v lo hi) L = (((num hi (num lo L).2).2.length : Int), (num hi (num lo L).2).2 ++ [((v : Int), (num lo L).1, (num hi (num lo L).2).1)]) := by
    rw [num_node, put, if_neg hm, hl]
   rw [hq] at hin hlt ⊢
   simp only at hin hlt ⊢
   simp only [ordT]
   rw [if_neg (by rw [mem_rng]; omega), Int.toNat_natCast]
   have hx : vx ((num hi (num lo L).2).2 ++ [((v : Int), (num lo L).1, (num hi (num lo L).2).1)] ++ r) (num hi (num lo L).2).2.length = ((v : Int), (num lo L).1, (num hi (num lo L).2).1) := by
    rw [vx_app (by simp), vx_last]
   rw [hx]
   have q2 := ih2 (num lo L).2 ([((v : Int), (num lo L).1, (num hi (num lo L).2).1)] ++ r) (v + 1) g1 ho.2.2.2.2
   have q1 := ih1 L (s2 ++ ([((v : Int), (num lo L).1, (num hi (num lo L).2).1)] ++ r)) (v + 1) g ho.2.2.2.1
   rw [← List.append_assoc, ← e2, ← List.append_assoc] at q1
   rw [← List.append_assoc] at q2
   simp only [q1, q2]
   have h2 := g2.len
   rw [List.length_append, List.length_cons, List.length_nil, show (num hi (num lo L).2).2.length + (0 + 1) - 2 = (num hi (num lo L).2).2.length - 2 + 1 by omega, rng_s]
   congr 2; omega
def ValidD (d : List Vtx × Int) : Prop := Gd d.1 ∧ vx d.1 0 = (-1, 0, 0) ∧ vx d.1 1 = (-1, 1, 1) ∧
 ((d.1.length = 2 ∧ (d.2 = 0 ∨ d.2 = 1)) ∨ (2 < d.1.length ∧ d.2 = (d.1.length : Int) - 1 ∧ ∃ t, Rep d.1 t d.2 ∧ ordT d.1 t d.2 [] = rng (d.1.length - 2)))
theorem cd_valid {t : Dt} (h : t.ok 0) : ValidD (cd t) := by
 obtain ⟨g1, r1, s1, e1⟩ := num_ok t c01 0 gd01 h
 have hx : ∀ k, k < 2 → vx (num t c01).2 k = vx c01 k := fun k hk => by rw [e1]; exact vx_app hk
 refine ⟨g1, hx 0 (by omega), hx 1 (by omega), ?_⟩
 cases t with
 | leaf b => refine Or.inl ⟨rfl, ?_⟩; cases b <;> simp [cd, num]
 | node v lo hi =>
  have hlt := Rep.lt g1.len r1
  have h2 : 2 ≤ (num (.node v lo hi) c01).1 := by obtain ⟨k, h1, h2, _⟩ := r1; omega
  have hm := num_root gd01 h (by exact h2)
  obtain ⟨ga, ra, sa, ea⟩ := num_ok lo c01 (v + 1) gd01 h.2.2.2.1
  obtain ⟨gb, rb, sb, eb⟩ := num_ok hi (num lo c01).2 (v + 1) ga h.2.2.2.2
  have hl := fnd_len gb.len hm
  have hq : num (.node v lo hi) c01 = (((num hi (num lo c01).2).2.length : Int), (num hi (num lo c01).2).2 ++ [((v : Int), (num lo c01).1, (num hi (num lo c01).2).1)]) := by
   rw [num_node, put, if_neg hm, hl]
  refine Or.inr ⟨by simp only [cd]; omega, ?_, .node v lo hi, r1, ?_⟩
  ·simp only [cd, hq, List.length_append, List.length_cons, List.length_nil]; omega
  ·have := ord_num (.node v lo hi) c01 [] 0 gd01 h
   rw [List.append_nil] at this
   exact this
def pvT (l : List Vtx) : Dt → Int → Nat → Option Nat
 | .leaf _, _, nx => some nx
 | .node _ lo hi, i, nx => if i < (nx : Int) then some nx else
  (pvT l lo (vx l i.toNat).2.1 nx).bind fun n1 => (pvT l hi (vx l i.toNat).2.2 n1).bind fun n2 => if i = (n2 : Int) then some (n2 + 1) else none
theorem pvT_ord (l : List Vtx) : ∀ (t : Dt) (i : Int) (nx : Nat), Rep l t i → 2 ≤ nx → (∀ m, pvT l t i nx = some m → nx ≤ m ∧ ordT l t i (rng (nx - 2)) = rng (m - 2)) ∧ (∀ m, ordT l t i (rng (nx - 2)) = rng m → pvT l t i nx = some (m + 2)) := by
 intro t
 induction t with
 | leaf b =>
  intro i nx _ h2
  refine ⟨fun m h => ?_, fun m h => ?_⟩
  ·simp only [pvT, Option.some.injEq] at h; subst h; exact ⟨Nat.le_refl _, rfl⟩
  ·have := congrArg List.length h
   simp only [ordT, rng_len] at this
   simp only [pvT, Option.some.injEq]; omega
 | node v lo hi ih1 ih2 =>
  intro i nx hr h2
  obtain ⟨k, rfl, k2, k3, k4, k5, k6⟩ := hr
  simp only [pvT, ordT, Int.toNat_natCast]
  by_cases hlt : (k : Int) < (nx : Int)
  ·rw [if_pos hlt, if_pos (mem_rng.2 (by omega))]
   refine ⟨fun m h => ?_, fun m h => ?_⟩
   ·simp only [Option.some.injEq] at h; subst h; exact ⟨Nat.le_refl _, rfl⟩
   ·have := congrArg List.length h
    simp only [rng_len] at this
    simp only [Option.some.injEq]; omega
  ·rw [if_neg hlt, if_neg (by rw [mem_rng]; omega)]
   obtain ⟨a1, a2⟩ := ih1 _ nx k5 h2
   refine ⟨fun m h => ?_, fun m h => ?_⟩
   ·simp only [Option.bind_eq_some_iff] at h
    obtain ⟨n1, q1, n2, q2, q3⟩ := h
    obtain ⟨b1, b2⟩ := a1 n1 q1
    obtain ⟨c1, c2⟩ := (ih2 _ n1 k6 (by omega)).1 n2 q2
    split at q3
    ·rename_i q4
     simp only [Option.some.injEq] at q3
     subst q3
     refine ⟨by omega, ?_⟩
     rw [b2, c2, show n2 + 1 - 2 = n2 - 2 + 1 by omega, rng_s]
     congr 2; omega
    ·cases q3
   ·obtain ⟨s1, e1⟩ := ordT_app l lo (vx l k).2.1 (rng (nx - 2))
    obtain ⟨s2, e2⟩ := ordT_app l hi (vx l k).2.2 (ordT l lo (vx l k).2.1 (rng (nx - 2)))
    have hm : m ≠ 0 := by rintro rfl; have := congrArg List.length h; rw [rng_len] at this; simp at this
    obtain ⟨m', rfl⟩ : ∃ m', m = m' + 1 := ⟨m - 1, by omega⟩
    rw [rng_s] at h
    have hk := List.append_inj' h rfl
    obtain ⟨hA, hB⟩ := hk
    simp only [List.cons.injEq, and_true] at hB
    have hA1 : ordT l lo (vx l k).2.1 (rng (nx - 2)) = rng (ordT l lo (vx l k).2.1 (rng (nx - 2))).length := by
     have this : ordT l lo (vx l k).2.1 (rng (nx - 2)) = (rng m').take (ordT l lo (vx l k).2.1 (rng (nx - 2))).length := by
      rw [← hA, e2]; simp
     have hle : (ordT l lo (vx l k).2.1 (rng (nx - 2))).length ≤ m' := by
      have := congrArg List.length hA; rw [e2, rng_len] at this; simp at this; omega
     rw [rng_take, Nat.min_eq_left hle] at this
     exact this
    generalize (ordT l lo (vx l k).2.1 (rng (nx - 2))).length = q at hA1
    have w1 := a2 q hA1
    rw [hA1] at hA
    have w2 := (ih2 _ (q + 2) k6 (by omega)).2 m' (by simpa using hA)
    simp only [w1, w2, Option.bind_some]
    rw [if_pos (by omega)]
end Go.Proofs.Q
namespace Go.Proofs.Q
open Go.AI
structure UN (lo hi : Nat) (σ τ : St) : Prop where
 row : ∀ id, lo ≤ id → id < hi → τ.row id = σ.row id
theorem UN.refl (lo hi : Nat) (σ : St) : UN lo hi σ σ := ⟨fun _ _ _ => rfl⟩
theorem UN.more {lo hi : Nat} {σ τ : St} (h : UN lo hi σ τ) (k : Nat) : UN lo hi σ (τ.more k) := ⟨h.row⟩
theorem UN.put {lo hi k : Nat} {σ τ : St} (h : UN lo hi σ τ) (hk : k < lo ∨ hi ≤ k) (ob : AObj) : UN lo hi σ (τ.put k ob) := ⟨fun id h1 h2 => (row_put_ne (by omega)).trans (h.row id h1 h2)⟩
theorem UN.ex {lo hi : Nat} {σ τ τ' : St} (e : EX τ τ') (h : UN lo hi σ τ) (hh : hi ≤ τ.next) : UN lo hi σ τ' := ⟨fun id h1 h2 => (e.row id (by omega)).trans (h.row id h1 h2)⟩
theorem UN.exn {lo hi n : Nat} {σ τ τ' : St} (e : EXn n τ τ') (h : UN lo hi σ τ) (hh : hi ≤ n) : UN lo hi σ τ' := ⟨fun id h1 h2 => (e.row id (by omega)).trans (h.row id h1 h2)⟩
def DVi (lo hi : Nat) (σ : St) (v : Value) (d : List Vtx × Int) : Prop := ∃ s, v = .agg #[s, .int .i64 d.2] ∧
 ((∃ id off c row m, s = .slice (some ⟨id, off, none⟩) d.1.length c ∧ lo ≤ id ∧ id < hi ∧ σ.row id = some (row, m3 m) ∧ (row.drop off).take (d.1.length * 3) = flat d.1) ∨ (s = .slice none 0 0 ∧ d.1 = []))
theorem DVf.i {n : Nat} {σ : St} {v : Value} {d : List Vtx × Int} (h : DVf n σ v d) : DVi n σ.next σ v d := by
 obtain ⟨s, h1, h2⟩ := h
 exact ⟨s, h1, h2.imp (fun h => h.ex) id⟩
theorem DVi.dv {lo hi : Nat} {σ : St} {v : Value} {d : List Vtx × Int} (h : DVi lo hi σ v d) (hh : hi ≤ σ.next) : DV σ v d := by
 obtain ⟨s, h1, h2⟩ := h
 refine ⟨s, h1, h2.imp (fun h => ?_) (fun h => ⟨none, h⟩)⟩
 obtain ⟨id, off, c, row, m, h1, h2, h3, h4, h5⟩ := h
 exact ⟨id, off, c, row, m, h1, by omega, h4, h5⟩
theorem DVi.un {lo hi : Nat} {σ τ : St} {v : Value} {d : List Vtx × Int} (h : DVi lo hi σ v d) (e : UN lo hi σ τ) : DVi lo hi τ v d := by
 obtain ⟨s, h1, h2⟩ := h
 refine ⟨s, h1, h2.imp (fun h => ?_) id⟩
 obtain ⟨id, off, c, row, m, h1, h2, h3, h4, h5⟩ := h
 exact ⟨id, off, c, row, m, h1, h2, h3, (e.row id h2 h3).trans h4, h5⟩
theorem Fr.more {σ : St} (h : Fr σ) (k : Nat) : Fr (σ.more k) := fun g hg => h g (by rw [next_more] at hg; omega)
theorem Fr.put {σ : St} (h : Fr σ) (k : Nat) (ob : AObj) : Fr (σ.put k ob) := h
def zeroD : List Vtx × Int := ([], 0)
theorem zero_dv (σ : St) : DV σ (.agg #[.slice none 0 0, .int .i64 0]) zeroD := ⟨_, rfl, Or.inr ⟨none, rfl, rfl⟩⟩
end Go.Proofs.Q
namespace Go.Proofs.Q
open Go.AI
def tab (N : Nat) (f : Nat → Bool) : List Bool := (List.range N).map f
theorem tab_len (N : Nat) (f : Nat → Bool) : (tab N f).length = N := by simp [tab]
theorem tab_congr {N : Nat} {f g : Nat → Bool} (h : ∀ i, i < N → f i = g i) : tab N f = tab N g := List.map_congr_left fun i hi => h i (List.mem_range.1 hi)
theorem bt_tab {N i : Nat} {f : Nat → Bool} (h : i < N) : bt (tab N f) i = f i := by simp [bt, tab, h]
theorem tab_set {N n : Nat} {f : Nat → Bool} {x : Bool} : (tab N f).set n x = tab N (fun i => if i = n then x else f i) := by
 refine List.ext_getElem (by simp [tab]) fun i h1 h2 => ?_
 rw [List.getElem_set]
 simp only [tab, List.getElem_map, List.getElem_range]
 by_cases h : n = i
 ·subst h; simp
 ·have : ¬ i = n := fun e => h e.symm
  simp [h, this]
theorem tab_zero (N : Nat) : List.replicate N false = tab N (fun _ => false) := List.ext_getElem (by simp [tab]) fun i h1 h2 => by simp [tab]
def half (n : Nat) (f g : Nat → Bool) : Nat → Bool := fun i => if i < n then f i else g i
theorem half_set {N n : Nat} {f g : Nat → Bool} : (tab N (half n f g)).set n (f n) = tab N (half (n + 1) f g) := by
 rw [tab_set]
 refine tab_congr fun i _ => ?_
 unfold half
 by_cases h : i = n
 ·subst h; simp
 ·by_cases h2 : i < n
  ·rw [if_neg h, if_pos h2, if_pos (by omega)]
  ·rw [if_neg h, if_neg h2, if_neg (by omega)]
theorem half_0 {N : Nat} {f g : Nat → Bool} : tab N g = tab N (half 0 f g) := tab_congr fun i _ => by simp [half]
theorem half_N {N : Nat} {f g : Nat → Bool} : tab N (half N f g) = tab N f := tab_congr fun i h => by simp [half, h]
theorem mkB (N : Nat) (f : Nat → Bool) (hN : N ≤ 1024) (id : Nat) : vMake Tryz.prog 63 (.int .i64 N) (.int .i64 N) id = some (.slice (some ⟨id, 0, none⟩) N N, .cells ((tab N (half 0 f fun _ => false)).map Value.bool) (rowMeta 1)) := by
 have h := mk_eq (P := Tryz.prog) (t := 63) (id := id) (n := N) Tryz.underlying63 if4 (by omega) (by omega) rfl rfl (by omega)
 rw [show (Value.cells (.bool false)).toList = [.bool false] from rfl, zeros_false, tab_zero, half_0 (f := f)] at h
 exact h
def TBo (lo hi : Nat) (σ : St) (v : Value) (N : Nat) (f : Nat → Bool) : Prop := ∃ id, v = .slice (some ⟨id, 0, none⟩) N N ∧ lo ≤ id ∧ id < hi ∧ σ.row id = some ((tab N f).map Value.bool, rowMeta 1)
theorem TBo.un {lo hi N : Nat} {σ τ : St} {v : Value} {f : Nat → Bool} (h : TBo lo hi σ v N f) (e : UN lo hi σ τ) : TBo lo hi τ v N f := by
 obtain ⟨id, h1, h2, h3, h4⟩ := h
 exact ⟨id, h1, h2, h3, (e.row id h2 h3).trans h4⟩
def SB (σ : St) (v : Value) (bs : List Bool) : Prop := ∃ o c, v = .slice o bs.length c ∧ (0 < bs.length → ∃ id off row m, o = some ⟨id, off, none⟩ ∧ id < σ.next ∧ σ.row id = some (row, m) ∧ (row.drop off).take bs.length = bs.map Value.bool)
theorem SB.mono {σ τ : St} {v : Value} {bs : List Bool} (h : SB σ v bs) (e : EX σ τ) : SB τ v bs := by
 obtain ⟨o, c, h1, h2⟩ := h
 refine ⟨o, c, h1, fun h0 => ?_⟩
 obtain ⟨id, off, row, m, h3, h4, h5, h6⟩ := h2 h0
 exact ⟨id, off, row, m, h3, by have := e.next; omega, (e.row id h4).trans h5, h6⟩
theorem TBo.sb {lo hi N : Nat} {σ : St} {v : Value} {f : Nat → Bool} (h : TBo lo hi σ v N f) (hh : hi ≤ σ.next) : SB σ v (tab N f) := by
 obtain ⟨id, h1, h2, h3, h4⟩ := h
 refine ⟨some ⟨id, 0, none⟩, N, by rw [tab_len]; exact h1, fun _ => ⟨id, 0, _, _, rfl, by omega, h4, ?_⟩⟩
 rw [List.drop_zero, List.take_of_length_le (by rw [List.length_map]; exact Nat.le_refl _)]
theorem SB.at {σ : St} {id off : Nat} {row : List Value} {m : Mta} {bs : List Bool} (h : (row.drop off).take bs.length = bs.map Value.bool) {i : Nat} (hi : i < bs.length) : row[off + i]? = some (.bool (bt bs i)) := tb_at h hi
theorem Bits_spec (n : Nat) (hn : n < 2 ^ 62) (σ : St) : wpc Tryz.prog 29 #[.int .i64 n] σ fun r σ' => TBo σ.next σ'.next σ' r 10 (bits n) ∧ EX σ σ' := by
 refine body_go Tryz.func29 rfl ?_
 have hr := Tryz.results29
 have hmk := mkB 10 (bits n) (by omega)
 rw [show (((10 : Nat) : Int)) = 10 from rfl] at hmk
 simp only [c_seq, RUNA, RUNB, zAd, zMo, zDi, zSu, zMu, zEq, zBe, zLe, zTo, fillS, wantG, vBox, Value.cells, one, putAt, hr, hmk]
 refine loop_go (fun m S τ => S.at 0 = .int .i64 n ∧ S.at 3 = .slice (some ⟨σ.next + 1, 0, none⟩) 10 10 ∧ EX σ τ ∧ σ.next + 1 < τ.next ∧
  ∃ i : Nat, S.at 4 = .int .i64 i ∧ i ≤ 10 ∧ m = 10 - i ∧ τ.row (σ.next + 1) = some ((tab 10 (half i (bits n) fun _ => false)).map Value.bool, rowMeta 1)) 10 ?_ ?_
 ·simp only [c_seq, RUNA, RUNB, zAd, zMo, zDi, zSu, zMu, zEq, zBe, zLe, zTo, fillS, wantG, vBox, Value.cells, one, putAt]
  refine ⟨?_, by omega, 0, rfl, by omega, by omega, rfl⟩
  repeat first | assumption | exact EXn.refl _ _ | refine EXn.more ?_ _ | refine EXn.put ?_ (by omega) _ | refine EX.trans ?_ (by assumption)
 ·rintro _ S τ ⟨s0, s3, hE, hx, i, s4, hi, rfl, rt⟩
  by_cases hlt : i < 10
  ·have hd : decide ((i : Int) < 10) = true := by simp; omega
   have z2 : (0 : Int) ≤ (i : Int) := by omega
   have z3 : (i : Int) < ((10 : Nat) : Int) := by omega
   have hw : IntKind.i64.wrap ((i : Int) + 1) = ((i + 1 : Nat) : Int) := by rw [wrap64 (by omega) (by omega)]; rfl
   have hle : i + 1 ≤ ((tab 10 (half i (bits n) fun _ => false)).map Value.bool).length := by rw [List.length_map, tab_len]; omega
   have hsh := shr_nat (n := n) (i := i) (by omega)
   have hlt2 : n / 2 ^ i < 2 ^ 62 := Nat.lt_of_le_of_lt (Nat.div_le_self _ _) (by omega)
   have han := and_one hlt2
   simp only [c_seq, RUNA, RUNB, zAd, zMo, zDi, zSu, zMu, zEq, zBe, zLe, zTo, fillS, wantG, vBox, Value.cells, one, putAt, TYA, s0, s3, s4, hd, n_shr z2, hsh, han, ia63 z2 z3, rt, hle, hw]
   refine ⟨10 - (i + 1), by omega, ?_, by omega, i + 1, rfl, by omega, rfl, ?_⟩
   ·refine EXn.more (EXn.put (EXn.more (EXn.more hE _) _) (by omega) _) _
   ·rw [← half_set, List.map_set]; rfl
  ·have hd : decide ((i : Int) < 10) = false := by simp; omega
   have hn1 : i = 10 := by omega
   rw [hn1, half_N] at rt
   simp only [c_seq, RUNA, RUNB, zAd, zMo, zDi, zSu, zMu, zEq, zBe, zLe, zTo, fillS, wantG, vBox, Value.cells, one, putAt, TYA, s0, s3, s4, hd, hr]
   refine ⟨⟨σ.next + 1, rfl, by omega, by omega, ?_⟩, ?_⟩
   ·exact rt
   ·repeat first | assumption | exact EXn.refl _ _ | refine EXn.more ?_ _ | refine EXn.put ?_ (by omega) _ | refine EX.trans ?_ (by assumption)
end Go.Proofs.Q
namespace Go.Proofs.Q
open Go.AI
theorem Rep.node_at {l : List Vtx} {t : Dt} {i : Nat} (h : Rep l t i) (h2 : 2 ≤ i) : ∃ v lo hi, t = .node v lo hi ∧ i < l.length ∧ (vx l i).1 = (v : Int) ∧ Rep l lo (vx l i).2.1 ∧ Rep l hi (vx l i).2.2 := by
 cases t with
 | leaf b => simp only [Rep] at h; split at h <;> omega
 | node v lo hi => obtain ⟨k, h1, _, h3, h4, h5, h6⟩ := h; obtain rfl : i = k := (by omega); exact ⟨v, lo, hi, rfl, h3, h4, h5, h6⟩
theorem Rep.leaf_at {l : List Vtx} {t : Dt} {i : Nat} (h : Rep l t i) (h2 : i < 2) : t = .leaf (i == 1) := by
 cases t with
 | leaf b => simp only [Rep] at h; cases b <;> simp at h <;> (obtain rfl | rfl : i = 0 ∨ i = 1 := by omega) <;> simp at h ⊢
 | node v lo hi => obtain ⟨k, h1, h3, _⟩ := h; omega
theorem refEval_spec {σ : St} {a b : Value} {T : Dt} {l : List Vtx} {root : Int} {bs : List Bool} (ha : DV σ a (l, root)) (hg : Gd l) (hR : Rep l T root) (hT : T.ok 0) (hb : SB σ b bs) :
    wpc Tryz.prog 76 #[a, b] σ fun r σ' => r = .bool (T.ev (bt bs)) ∧ EX σ σ' := by
 obtain ⟨oa, ca, rfl, hA⟩ := ha.open
 obtain ⟨ob, cb, rfl, hB⟩ := hb
 simp only at hA
 refine body_go Tryz.func76 rfl ?_
 have hr := Tryz.results76
 have hlen := hg.len
 obtain ⟨aid, aoff, arow, am, rfl, a1, a2, a3⟩ := hA (by omega)
 have hlt0 := Rep.lt hg.len hR
 obtain ⟨rt, rfl⟩ : ∃ rt : Nat, root = rt := ⟨_, (Int.toNat_of_nonneg hlt0.1).symm⟩
 simp only [c_seq, RUNA, RUNB, zAd, zMo, zDi, zSu, zMu, zEq, zBe, zLe, zTo, fillS, wantG, vBox, Value.cells, one, putAt, TYA, hr]
 refine loop_go (fun m S τ => S.at 1 = .slice ob bs.length cb ∧ S.at 2 = .pointer (some ⟨σ.next, 0, none⟩) ∧ EX σ τ ∧ σ.next < τ.next ∧
  τ.row σ.next = some ([.slice (some ⟨aid, aoff, none⟩) l.length ca, .int .i64 rt], boxMeta) ∧
  S.at 5 = .int .i64 m ∧ ∃ U, Rep l U m ∧ U.ok 0 ∧ U.ev (bt bs) = T.ev (bt bs)) rt ?_ ?_
 ·simp only [c_seq, RUNA, RUNB, zAd, zMo, zDi, zSu, zMu, zEq, zBe, zLe, zTo, fillS, wantG, vBox, Value.cells, one, putAt]
  refine ⟨?_, by omega, T, hR, hT, rfl⟩
  repeat first | assumption | exact EXn.refl _ _ | refine EXn.more ?_ _ | refine EXn.put ?_ (by omega) _ | refine EX.trans ?_ (by assumption)
 ·rintro i S τ ⟨s1, s2, hE, hx, r0, s5, U, hU, hUo, hUe⟩
  have hil := Rep.lt hg.len hU
  by_cases hlt : 2 ≤ i
  ·obtain ⟨v, lo, hi, rfl, h3, h4, h5, h6⟩ := hU.node_at hlt
   have hd1 : decide ((1 : Int) < (i : Int)) = true := by simp; omega
   have hd2 : decide ((i : Int) < (l.length : Int)) = true := by simp; omega
   have i0 : (0 : Int) ≤ (i : Int) := by omega
   have i1 : (i : Int) < (l.length : Int) := by omega
   have ra := (hE.row aid a1).trans a2
   have ca' := row_cut a3 h3
   have n1 : ¬ aid = τ.next + 9 + 5 := by have := hE.next; omega
   have n2 : ¬ σ.next = τ.next + (9 + 5) := by omega
   have hlo := hg.lo i hlt h3
   have hhi := hg.hi i hlt h3
   have hvv := hg.var i hlt h3
   have hd3 : decide (0 ≤ (vx l i).1) = true := by simp; omega
   by_cases hvl : v < bs.length
   ·have hd4 : decide ((vx l i).1 < (bs.length : Int)) = true := by simp; omega
    obtain ⟨bid, boff, brow, bm, rfl, b1, b2, b3⟩ := hB (by omega)
    have rb := (hE.row bid b1).trans b2
    have n3 : ¬ bid = τ.next + 9 + 5 := by have := hE.next; omega
    have v0 : (0 : Int) ≤ (vx l i).1 := by omega
    have v1 : (vx l i).1 < (bs.length : Int) := by omega
    have tv : brow[boff + (vx l i).1.toNat]? = some (.bool (bt bs v)) := by rw [h4, Int.toNat_natCast]; exact tb_at b3 hvl
    have hn := hE.next
    have n4 : ¬ bid = τ.next + 14 := by omega
    have n5 : ¬ aid = τ.next + 14 := by omega
    have n6 : ¬ σ.next = τ.next + 14 := by omega
    cases hbv : bt bs v with
    | true =>
     rw [hbv] at tv
     have hd5 : decide ((i : Int) ≤ (vx l i).2.2) = false := by simp; omega
     simp only [c_seq, RUNA, RUNB, zAd, zMo, zDi, zSu, zMu, zEq, zBe, zLe, zTo, fillS, wantG, vBox, Value.cells, one, putAt, TYA, s1, s2, s5, r0, hd1, hd2, hd3, hd4, ia39 i0 i1, ia63 v0 v1, ra, ca', n1, n2, n3, n4, n5, n6, rb, tv, hd5]
     refine ⟨(vx l i).2.2.toNat, by omega, ?_, by omega, ?_, hi, ?_, Dt.ok_mono hUo.2.2.2.2 (by omega), ?_⟩
     ·repeat first | assumption | exact EXn.refl _ _ | refine EXn.more ?_ _ | refine EXn.put ?_ (by omega) _ | refine EX.trans ?_ (by assumption)
     ·rw [Int.toNat_of_nonneg hhi.1]
     ·rw [Int.toNat_of_nonneg hhi.1]; exact h6
     ·rw [← hUe]; simp only [Dt.ev, hbv, if_true]
    | false =>
     rw [hbv] at tv
     have hd5 : decide ((i : Int) ≤ (vx l i).2.1) = false := by simp; omega
     simp only [c_seq, RUNA, RUNB, zAd, zMo, zDi, zSu, zMu, zEq, zBe, zLe, zTo, fillS, wantG, vBox, Value.cells, one, putAt, TYA, s1, s2, s5, r0, hd1, hd2, hd3, hd4, ia39 i0 i1, ia63 v0 v1, ra, ca', n1, n2, n3, n4, n5, n6, rb, tv, hd5]
     refine ⟨(vx l i).2.1.toNat, by omega, ?_, by omega, ?_, lo, ?_, Dt.ok_mono hUo.2.2.2.1 (by omega), ?_⟩
     ·repeat first | assumption | exact EXn.refl _ _ | refine EXn.more ?_ _ | refine EXn.put ?_ (by omega) _ | refine EX.trans ?_ (by assumption)
     ·rw [Int.toNat_of_nonneg hlo.1]
     ·rw [Int.toNat_of_nonneg hlo.1]; exact h5
     ·rw [← hUe]; simp only [Dt.ev, hbv, Bool.false_eq_true, if_false]
   ·have hd4 : decide ((vx l i).1 < (bs.length : Int)) = false := by simp; omega
    have hbv : bt bs v = false := by unfold bt; rw [List.getD_eq_getElem?_getD, List.getElem?_eq_none (by omega)]; rfl
    have hn := hE.next
    have n5 : ¬ aid = τ.next + 14 := by omega
    have n6 : ¬ σ.next = τ.next + 14 := by omega
    have hd5 : decide ((i : Int) ≤ (vx l i).2.1) = false := by simp; omega
    simp only [c_seq, RUNA, RUNB, zAd, zMo, zDi, zSu, zMu, zEq, zBe, zLe, zTo, fillS, wantG, vBox, Value.cells, one, putAt, TYA, s1, s2, s5, r0, hd1, hd2, hd3, hd4, ia39 i0 i1, ra, ca', n1, n2, n5, n6, hd5]
    refine ⟨(vx l i).2.1.toNat, by omega, ?_, by omega, ?_, lo, ?_, Dt.ok_mono hUo.2.2.2.1 (by omega), ?_⟩
    ·repeat first | assumption | exact EXn.refl _ _ | refine EXn.more ?_ _ | refine EXn.put ?_ (by omega) _ | refine EX.trans ?_ (by assumption)
    ·rw [Int.toNat_of_nonneg hlo.1]
    ·rw [Int.toNat_of_nonneg hlo.1]; exact h5
    ·rw [← hUe]; simp only [Dt.ev, hbv, Bool.false_eq_true, if_false]
  ·have hd1 : decide ((1 : Int) < (i : Int)) = false := by simp; omega
   have hle := hU.leaf_at (by omega)
   subst hle
   simp only [c_seq, RUNA, RUNB, zAd, zMo, zDi, zSu, zMu, zEq, zBe, zLe, zTo, fillS, wantG, vBox, Value.cells, one, putAt, TYA, s1, s2, s5, r0, hd1, hr]
   refine ⟨?_, ?_⟩
   ·rw [← hUe]; simp only [Dt.ev]
    obtain rfl | rfl : i = 0 ∨ i = 1 := by omega
    ·rfl
    ·rfl
   ·repeat first | assumption | exact EXn.refl _ _ | refine EXn.more ?_ _ | refine EXn.put ?_ (by omega) _ | refine EX.trans ?_ (by assumption)
def IsD (lo hi : Nat) (σ : St) (v : Value) (φ : As → Bool) : Prop := ∃ T : Dt, DVi lo hi σ v (cd T) ∧ T.ok 0 ∧ ∀ f, T.ev f = φ f
theorem IsD.un {lo hi : Nat} {σ τ : St} {v : Value} {φ : As → Bool} (h : IsD lo hi σ v φ) (e : UN lo hi σ τ) : IsD lo hi τ v φ := by
 obtain ⟨T, h1, h2⟩ := h; exact ⟨T, h1.un e, h2⟩
theorem DVi.weak {lo lo' hi : Nat} {σ : St} {v : Value} {d : List Vtx × Int} (h : DVi lo hi σ v d) (hl : lo' ≤ lo) : DVi lo' hi σ v d := by
 obtain ⟨s, h1, h2⟩ := h
 refine ⟨s, h1, h2.imp (fun h => ?_) id⟩
 obtain ⟨id, off, c, row, m, h1, h2, h3, h4⟩ := h
 exact ⟨id, off, c, row, m, h1, by omega, h3, h4⟩
theorem IsD.weak {lo lo' hi : Nat} {σ : St} {v : Value} {φ : As → Bool} (h : IsD lo hi σ v φ) (hl : lo' ≤ lo) : IsD lo' hi σ v φ := by
 obtain ⟨T, h1, h2⟩ := h; exact ⟨T, h1.weak hl, h2⟩
theorem cd_gd {T : Dt} (h : T.ok 0) : Gd (cd T).1 ∧ Rep (cd T).1 T (cd T).2 := by
 obtain ⟨g1, r1, _⟩ := num_ok T c01 0 gd01 h; exact ⟨g1, r1⟩
theorem IsD.congr {lo hi : Nat} {σ : St} {v : Value} {φ ψ : As → Bool} (h : IsD lo hi σ v φ) (e : ∀ f, φ f = ψ f) : IsD lo hi σ v ψ := by
 obtain ⟨T, h1, h2, h3⟩ := h; exact ⟨T, h1, h2, fun f => (h3 f).trans (e f)⟩
theorem ev10 {T : Dt} (h : T.ok 0) (f g : As) (e : ∀ i, i < 10 → f i = g i) : T.ev f = T.ev g := Dt.ev_congr h (fun i _ hi => e i hi)
theorem Table_spec {σ : St} {a : Value} {T : Dt} {lo hi : Nat} (ha : DVi lo hi σ a (cd T)) (hhi : hi ≤ σ.next) (hT : T.ok 0) :
    wpc Tryz.prog 66 #[a] σ fun r σ' => TBo σ.next σ'.next σ' r 1024 (fun n => T.ev (bits n)) ∧ EX σ σ' := by
 obtain ⟨hg, hR⟩ := cd_gd hT
 obtain ⟨oa, ca, rfl, -⟩ := (ha.dv hhi).open
 refine body_go Tryz.func66 rfl ?_
 have hr := Tryz.results66
 have hmk := mkB 1024 (fun n => T.ev (bits n)) (by omega)
 rw [show (((1024 : Nat) : Int)) = 1024 from rfl] at hmk
 simp only [c_seq, RUNA, RUNB, zAd, zMo, zDi, zSu, zMu, zEq, zBe, zLe, zTo, fillS, wantG, vBox, Value.cells, one, putAt, TYA, hr, hmk]
 refine loop_go (fun m S τ => S.at 1 = .pointer (some ⟨σ.next, 0, none⟩) ∧ S.at 3 = .slice (some ⟨σ.next + 2, 0, none⟩) 1024 1024 ∧ EX σ τ ∧ σ.next + 2 < τ.next ∧
  τ.row σ.next = some ([.slice oa (cd T).1.length ca, .int .i64 (cd T).2], boxMeta) ∧
  ∃ n : Nat, S.at 4 = .int .i64 n ∧ n ≤ 1024 ∧ m = 1024 - n ∧ τ.row (σ.next + 2) = some ((tab 1024 (half n (fun n => T.ev (bits n)) fun _ => false)).map Value.bool, rowMeta 1)) 1024 ?_ ?_
 ·simp only [c_seq, RUNA, RUNB, zAd, zMo, zDi, zSu, zMu, zEq, zBe, zLe, zTo, fillS, wantG, vBox, Value.cells, one, putAt]
  refine ⟨?_, by omega, 0, rfl, by omega, by omega, rfl⟩
  repeat first | assumption | exact EXn.refl _ _ | refine EXn.more ?_ _ | refine EXn.put ?_ (by omega) _ | refine EX.trans ?_ (by assumption)
 ·rintro _ S τ ⟨s1, s3, hE, hx, r0, n, s4, hn, rfl, rt⟩
  have hnn := hE.next
  by_cases hlt : n < 1024
  ·have hd : decide ((n : Int) < ((1024 : Nat) : Int)) = true := by simp; omega
   have z2 : (0 : Int) ≤ (n : Int) := by omega
   have z3 : (n : Int) < ((1024 : Nat) : Int) := by omega
   have hw : IntKind.i64.wrap ((n : Int) + 1) = ((n + 1 : Nat) : Int) := by rw [wrap64 (by omega) (by omega)]; rfl
   simp only [c_seq, RUNA, RUNB, zAd, zMo, zDi, zSu, zMu, zEq, zBe, zLe, zTo, fillS, wantG, vBox, Value.cells, one, putAt, TYA, s1, s3, s4, hd]
   refine d_go (ms := [0, 0, 0, 0, 8, 28, 63, 127]) (order := [0, 1, 2, 3, 4, 5, 6, 7]) (by kernel_rfl) (by kernel_rfl) (by kernel_rfl) (by kernel_rfl) ?_
   simp only [YRUNA, YRUNB, zSh, bit, c_seq, RUNA, RUNB, zAd, zMo, zDi, zSu, zMu, zEq, zBe, zLe, zTo, fillS, wantG, vBox, Value.cells, one, putAt, TYA, s1, s3, s4, r0]
   refine wpc_mono (Bits_spec n (by omega) _) ?_
   rintro r σ2 ⟨hb, hE2⟩
   have n2 := hE2.next
   simp only [next_more] at n2 hb
   have r2 : σ2.row σ.next = some ([.slice oa (cd T).1.length ca, .int .i64 (cd T).2], boxMeta) := (hE2.row _ (by first | omega | (simp only [next_more, next_put] at *; omega))).trans r0
   obtain ⟨bid, rfl, hb1, hb2, hb3⟩ := id hb
   simp only [YRUNA, YRUNB, zSh, bit, c_seq, RUNA, RUNB, zAd, zMo, zDi, zSu, zMu, zEq, zBe, zLe, zTo, fillS, wantG, vBox, Value.cells, one, putAt, TYA, s1, s3, s4, r0, r2]
   have hd2 : DV σ2 (Value.agg #[Value.slice oa (cd T).1.length ca, Value.int IntKind.i64 (cd T).2]) (cd T) := ((ha.dv hhi).mono hE).mono (EX.trans ((EXn.refl _ τ).more 4 |>.more 8) hE2)
   refine wpc_mono (refEval_spec (T := T) (bs := tab 10 (bits n)) hd2 hg hR hT (hb.sb (by omega))) ?_
   rintro r σ3 ⟨rfl, hE3⟩
   have n3 := hE3.next
   have hev : T.ev (bt (tab 10 (bits n))) = T.ev (bits n) := ev10 hT _ _ fun i hi => bt_tab hi
   have r3 : σ3.row σ.next = some ([.slice oa (cd T).1.length ca, .int .i64 (cd T).2], boxMeta) := (hE3.row _ (by omega)).trans r2
   have rt3 : σ3.row (σ.next + 2) = some ((tab 1024 (half n (fun n => T.ev (bits n)) fun _ => false)).map Value.bool, rowMeta 1) :=
    (hE3.row _ (by omega)).trans ((hE2.row _ (by first | omega | (simp only [next_more, next_put] at *; omega))).trans rt)
   have hle : n + 1 ≤ ((tab 1024 (half n (fun n => T.ev (bits n)) fun _ => false)).map Value.bool).length := by rw [List.length_map, tab_len]; omega
   simp only [YRUNA, YRUNB, zSh, bit, c_seq, RUNA, RUNB, zAd, zMo, zDi, zSu, zMu, zEq, zBe, zLe, zTo, fillS, wantG, vBox, Value.cells, one, putAt, TYA, s1, s3, s4, r3, rt3, ia63 z2 z3, hle, hw, hev]
   refine ⟨1024 - (n + 1), by omega, ?_, by omega, n + 1, rfl, by omega, rfl, ?_⟩
   ·refine EXn.more (EXn.put ?_ (by omega) _) _
    exact EX.trans (EX.trans hE (EX.trans (((EX.refl τ).more 4).more 8) hE2)) hE3
   ·rw [← half_set, List.map_set]
  ·have hd : decide ((n : Int) < ((1024 : Nat) : Int)) = false := by simp; omega
   have hn1 : n = 1024 := by omega
   rw [hn1, half_N] at rt
   simp only [c_seq, RUNA, RUNB, zAd, zMo, zDi, zSu, zMu, zEq, zBe, zLe, zTo, fillS, wantG, vBox, Value.cells, one, putAt, TYA, s1, s3, s4, hd, hr]
   refine ⟨⟨σ.next + 2, rfl, by omega, by omega, rt⟩, ?_⟩
   repeat first | assumption | exact EXn.refl _ _ | refine EXn.more ?_ _ | refine EXn.put ?_ (by omega) _ | refine EX.trans ?_ (by assumption)
end Go.Proofs.Q
namespace Go.Proofs.Q
open Go.AI
theorem tabv {N i : Nat} {f : Nat → Bool} (h : i < N) : ((tab N f).map Value.bool)[i]? = some (.bool (f i)) := by simp [tab, h]
theorem half_at {n : Nat} {f g : Nat → Bool} : half n f g n = g n := by simp [half]
theorem ev_code {T : Dt} (h : T.ok 0) (f : As) : T.ev (bits (code f)) = T.ev f := ev10 h _ _ fun i hi => bits_code f hi
theorem Diagram_is {lo hi : Nat} {σ : St} {v : Value} {g : Nat → Bool} (h : TBo lo hi σ v 1024 g) (hhi : hi ≤ σ.next) (hF : Fr σ) : wpc Tryz.prog 30 #[v] σ fun r σ' => IsD σ.next σ'.next σ' r (fun f => g (code f)) ∧ EX σ σ' := by
 obtain ⟨id, rfl, h1, h2, h3⟩ := h
 refine wpc_mono (Diagram_spec σ id 0 1024 _ _ (tab 1024 g) (tab_len _ _) (by omega) h3 ?_ hF) ?_
 ·rw [List.drop_zero, List.take_of_length_le (by rw [List.length_map, tab_len]; exact Nat.le_refl _)]
 ·rintro r σ' ⟨hd, hE⟩
  rw [dgm_cd] at hd
  exact ⟨⟨_, hd.i, tt_ok _, fun f => by rw [tt_ev, bt_tab (code_lt f)]⟩, hE⟩
theorem IsD.open {lo hi : Nat} {σ : St} {v : Value} {φ : As → Bool} (h : IsD lo hi σ v φ) : ∃ o n c i, v = .agg #[.slice o n c, .int .i64 i] := by
 obtain ⟨T, ⟨s, rfl, h | h⟩, _⟩ := h
 ·obtain ⟨id, off, c, row, m, rfl, _⟩ := h; exact ⟨_, _, _, _, rfl⟩
 ·obtain ⟨rfl, _⟩ := h; exact ⟨_, _, _, _, rfl⟩
theorem Table_is {lo hi : Nat} {σ : St} {v : Value} {φ : As → Bool} (h : IsD lo hi σ v φ) (hhi : hi ≤ σ.next) : wpc Tryz.prog 66 #[v] σ fun r σ' => TBo σ.next σ'.next σ' r 1024 (fun n => φ (bits n)) ∧ EX σ σ' := by
 obtain ⟨T, h1, h2, h3⟩ := h
 refine wpc_mono (Table_spec h1 hhi h2) ?_
 rintro r σ' ⟨⟨id, q1, q2, q3, q4⟩, hE⟩
 exact ⟨⟨id, q1, q2, q3, by rw [q4, tab_congr (fun i _ => h3 (bits i))]⟩, hE⟩
def Ten (φ : As → Bool) : Prop := ∀ f, φ (bits (code f)) = φ f
theorem IsD.ten {lo hi : Nat} {σ : St} {v : Value} {φ : As → Bool} (h : IsD lo hi σ v φ) : Ten φ := by
 obtain ⟨T, _, h2, h3⟩ := h
 intro f; rw [← h3, ← h3, ev_code h2]
theorem refNot_spec {lo hi : Nat} {σ : St} {a : Value} {φ : As → Bool} (ha : IsD lo hi σ a φ) (hhi : hi ≤ σ.next) (hF : Fr σ) : wpc Tryz.prog 34 #[a] σ fun r σ' => IsD σ.next σ'.next σ' r (fun f => !φ f) ∧ EX σ σ' := by
 have hten := ha.ten
 obtain ⟨o, k, c, i, rfl⟩ := ha.open
 refine body_go Tryz.func34 rfl ?_
 have hr := Tryz.results34
 simp only [c_seq, RUNA, RUNB, zAd, zMo, zDi, zSu, zMu, zEq, zBe, zLe, zTo, fillS, wantG, vBox, Value.cells, one, putAt, TYA, hr]
 refine wpc_mono (Table_is (ha.un ?_) ?_) ?_
 ·repeat first | assumption | exact UN.refl _ _ _ | refine UN.more ?_ _ | refine UN.put ?_ (by omega) _ | refine UN.ex (by assumption) ?_ (by first | omega | (simp only [next_more, next_put]; omega)) | refine UN.exb (by assumption) ?_ (by first | omega | (simp only [next_more, next_put]; omega)) (by omega)
 ·first | omega | (simp only [next_more, next_put] at *; omega)
 rintro r σ1 ⟨⟨id, rfl, t1, t2, t3⟩, hE1⟩
 have n1 := hE1.next
 simp only [next_more, next_put] at n1 t1
 have f1 := hE1.fr (by repeat first | assumption | refine Fr.more ?_ _ | refine Fr.put ?_ _ _)
 have b1 : σ1.row (σ.next + 1) = some ([.slice none 0 0, .int .i64 0], boxMeta) := by
  rw [hE1.row _ (by first | omega | (simp only [next_more, next_put] at *; omega))]; simp only [c_seq, RUNA, RUNB, zAd, zMo, zDi, zSu, zMu, zEq, zBe, zLe, zTo, fillS, wantG, vBox, Value.cells, one, putAt]
 have e1 : EX σ σ1 := by repeat first | assumption | exact EXn.refl _ _ | refine EXn.more ?_ _ | refine EXn.put ?_ (by omega) _ | refine EX.trans ?_ (by assumption)
 simp only [c_seq, RUNA, RUNB, zAd, zMo, zDi, zSu, zMu, zEq, zBe, zLe, zTo, fillS, wantG, vBox, Value.cells, one, putAt, TYA]
 refine loop_go (fun m S τ => S.at 2 = .pointer (some ⟨σ.next + 1, 0, none⟩) ∧ S.at 3 = .slice (some ⟨id, 0, none⟩) 1024 1024 ∧ EX σ τ ∧ Fr τ ∧ σ1.next ≤ τ.next ∧
  τ.row (σ.next + 1) = some ([.slice none 0 0, .int .i64 0], boxMeta) ∧
  ∃ n : Nat, S.at 4 = .int .i64 n ∧ n ≤ 1024 ∧ m = 1024 - n ∧ τ.row id = some ((tab 1024 (half n (fun n => !φ (bits n)) (fun n => φ (bits n)))).map Value.bool, rowMeta 1)) 1024 ?_ ?_
 ·simp only [c_seq, RUNA, RUNB, zAd, zMo, zDi, zSu, zMu, zEq, zBe, zLe, zTo, fillS, wantG, vBox, Value.cells, one, putAt]
  refine ⟨?_, ?_, by omega, b1, 0, rfl, by omega, by omega, ?_⟩
  ·repeat first | assumption | exact EXn.refl _ _ | refine EXn.more ?_ _ | refine EXn.put ?_ (by omega) _ | refine EX.trans ?_ (by assumption)
  ·repeat first | assumption | refine Fr.more ?_ _ | refine Fr.put ?_ _ _
  ·rw [t3, half_0 (f := fun n => !φ (bits n))]
 rintro _ S τ ⟨s2, s3, hE, hF', hx, r0, n, s4, hn, rfl, rt⟩
 have nn := hE.next
 by_cases hlt : n < 1024
 ·have hd : decide ((n : Int) < ((1024 : Nat) : Int)) = true := by simp; omega
  have z2 : (0 : Int) ≤ (n : Int) := by omega
  have z3 : (n : Int) < ((1024 : Nat) : Int) := by omega
  have hw : IntKind.i64.wrap ((n : Int) + 1) = ((n + 1 : Nat) : Int) := by rw [wrap64 (by omega) (by omega)]; rfl
  have hle : n + 1 ≤ ((tab 1024 (half n (fun n => !φ (bits n)) (fun n => φ (bits n)))).map Value.bool).length := by rw [List.length_map, tab_len]; omega
  have hv := tabv (f := half n (fun n => !φ (bits n)) (fun n => φ (bits n))) hlt
  rw [half_at] at hv
  have q : ¬ σ.next + 1 = id := by omega
  simp only [c_seq, RUNA, RUNB, zAd, zMo, zDi, zSu, zMu, zEq, zBe, zLe, zTo, fillS, wantG, vBox, Value.cells, one, putAt, TYA, s2, s3, s4, hd, ia63 z2 z3, rt, hv, hle, hw, r0, q]
  refine ⟨1024 - (n + 1), by omega, ?_, ?_, by omega, n + 1, rfl, by omega, rfl, ?_⟩
  ·repeat first | assumption | exact EXn.refl _ _ | refine EXn.more ?_ _ | refine EXn.put ?_ (by omega) _ | refine EX.trans ?_ (by assumption)
  ·repeat first | assumption | refine Fr.more ?_ _ | refine Fr.put ?_ _ _
  ·rw [← half_set, List.map_set]
 ·have hd : decide ((n : Int) < ((1024 : Nat) : Int)) = false := by simp; omega
  have hn1 : n = 1024 := by omega
  rw [hn1, half_N] at rt
  simp only [c_seq, RUNA, RUNB, zAd, zMo, zDi, zSu, zMu, zEq, zBe, zLe, zTo, fillS, wantG, vBox, Value.cells, one, putAt, TYA, s2, s3, s4, hd]
  refine wpc_mono (Diagram_is (lo := 0) (hi := τ.next) ⟨id, rfl, by omega, by omega, rt⟩ (by first | omega | (simp only [next_more, next_put] at *; omega)) (by repeat first | assumption | refine Fr.more ?_ _ | refine Fr.put ?_ _ _)) ?_
  rintro r σ2 ⟨hD, hE2⟩
  have n2 := hE2.next
  simp only [next_more] at n2 hD
  obtain ⟨o, k, c, i, rfl⟩ := hD.open
  have r2 : σ2.row (σ.next + 1) = some ([.slice none 0 0, .int .i64 0], boxMeta) := (hE2.row _ (by first | omega | (simp only [next_more, next_put] at *; omega))).trans r0
  simp only [c_seq, RUNA, RUNB, zAd, zMo, zDi, zSu, zMu, zEq, zBe, zLe, zTo, fillS, wantG, vBox, Value.cells, one, putAt, TYA, s2, r2, hr]
  refine ⟨IsD.congr (IsD.weak (hD.un ?_) (by omega)) (fun f => by rw [hten f]), ?_⟩
  ·repeat first | assumption | exact UN.refl _ _ _ | refine UN.more ?_ _ | refine UN.put ?_ (by omega) _ | refine UN.ex (by assumption) ?_ (by first | omega | (simp only [next_more, next_put]; omega)) | refine UN.exb (by assumption) ?_ (by first | omega | (simp only [next_more, next_put]; omega)) (by omega)
  ·repeat first | assumption | exact EXn.refl _ _ | refine EXn.more ?_ _ | refine EXn.put ?_ (by omega) _ | refine EX.trans ?_ (by assumption)
end Go.Proofs.Q
