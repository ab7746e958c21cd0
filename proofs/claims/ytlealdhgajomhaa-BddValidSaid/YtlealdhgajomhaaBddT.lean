/- Trees of decisions and their numbering: plain. -/
import Derived.Test.YtlealdhgajomhaaBddG
namespace Go.Proofs.Ytlealdhgajomhaa
set_option linter.unusedVariables false
open Go.AI
set_option linter.unusedSimpArgs false

inductive Dt where
  | leaf (b : Bool)
  | node (v : Nat) (lo hi : Dt)
  deriving DecidableEq

abbrev As := Nat → Bool
def Dt.ev : Dt → As → Bool
  | .leaf b, _ => b
  | .node v lo hi, f => if f v = true then hi.ev f else lo.ev f
/-- reduced, ordered, over the variables from 'n' on -/
def Dt.ok : Dt → Nat → Prop
  | .leaf _, _ => True
  | .node v lo hi, n => n ≤ v ∧ v < 10 ∧ lo ≠ hi ∧ lo.ok (v + 1) ∧ hi.ok (v + 1)
def Dt.size : Dt → Nat
  | .leaf _ => 1
  | .node _ lo hi => 1 + lo.size + hi.size
def upd (f : As) (v : Nat) (x : Bool) : As := fun i => if i = v then x else f i
theorem upd_self (f : As) (v : Nat) (x : Bool) : upd f v x v = x := by simp [upd]
theorem Dt.ok_mono : ∀ {t : Dt} {n m : Nat}, t.ok n → m ≤ n → t.ok m
  | .leaf _, _, _, _, _ => trivial
  | .node _ _ _, _, _, h, hm => ⟨Nat.le_trans hm h.1, h.2⟩
theorem Dt.ev_congr : ∀ {t : Dt} {n : Nat} {f g : As}, t.ok n → (∀ i, n ≤ i → i < 10 → f i = g i) → t.ev f = t.ev g := by
  intro t
  induction t with
  | leaf b => intro _ _ _ _ _; rfl
  | node v lo hi ih1 ih2 =>
    intro n f g h hv
    obtain ⟨h1, h2, _, h4, h5⟩ := h
    simp only [Dt.ev, hv v h1 h2, ih1 h4 (fun i h6 h7 => hv i (by omega) h7), ih2 h5 (fun i h6 h7 => hv i (by omega) h7)]
theorem Dt.ev_upd {t : Dt} {n v : Nat} {f : As} {x : Bool} (h : t.ok n) (hv : v < n) : t.ev (upd f v x) = t.ev f :=
  Dt.ev_congr h (fun i h1 _ => by simp only [upd]; rw [if_neg (by omega)])

theorem Dt.canon : ∀ (k : Nat) (a b : Dt) (n m : Nat), a.size + b.size ≤ k → a.ok n → b.ok m → (∀ f, a.ev f = b.ev f) → a = b := by
  intro k
  induction k with
  | zero => intro a b n m h; cases a <;> simp [Dt.size] at h <;> omega
  | succ k ih =>
    intro a b n m hs ha hb he
    have half : ∀ (v : Nat) (lo hi c : Dt) (q : Nat), lo.size + hi.size ≤ k → lo.ok (v + 1) → hi.ok (v + 1) → c.ok q → v < q → lo ≠ hi → (∀ f, (Dt.node v lo hi).ev f = c.ev f) → False := by
      intro v lo hi c q hs h1 h2 hc hq hne he
      refine hne (ih lo hi (v + 1) (v + 1) hs h1 h2 fun f => ?_)
      have e0 := he (upd f v false)
      have e1 := he (upd f v true)
      rw [Dt.ev_upd hc hq] at e0 e1
      simp only [Dt.ev, upd_self, Bool.false_eq_true, if_false, if_true] at e0 e1
      rw [Dt.ev_upd h1 (by omega)] at e0
      rw [Dt.ev_upd h2 (by omega)] at e1
      rw [e0, e1]
    cases a with
    | leaf x =>
      cases b with
      | leaf y => have := he (fun _ => false); simp only [Dt.ev] at this; rw [this]
      | node v lo hi =>
        simp only [Dt.size] at hs
        exact (half v lo hi (.leaf x) (v + 1) (by omega) hb.2.2.2.1 hb.2.2.2.2 trivial (by omega) hb.2.2.1 (fun f => (he f).symm)).elim
    | node v lo hi =>
      simp only [Dt.size] at hs
      have hlo : 1 ≤ lo.size := by cases lo <;> simp only [Dt.size] <;> omega
      have hhi : 1 ≤ hi.size := by cases hi <;> simp only [Dt.size] <;> omega
      cases b with
      | leaf y => exact (half v lo hi (.leaf y) (v + 1) (by simp only [Dt.size] at hs; omega) ha.2.2.2.1 ha.2.2.2.2 trivial (by omega) ha.2.2.1 he).elim
      | node w lo' hi' =>
        simp only [Dt.size] at hs
        have hlo' : 1 ≤ lo'.size := by cases lo' <;> simp only [Dt.size] <;> omega
        have hhi' : 1 ≤ hi'.size := by cases hi' <;> simp only [Dt.size] <;> omega
        rcases Nat.lt_trichotomy v w with hvw | hvw | hvw
        · exact (half v lo hi (.node w lo' hi') w (by omega) ha.2.2.2.1 ha.2.2.2.2 ⟨Nat.le_refl _, hb.2⟩ hvw ha.2.2.1 he).elim
        · subst hvw
          have e1 : lo = lo' := ih lo lo' (v + 1) (v + 1) (by omega) ha.2.2.2.1 hb.2.2.2.1 fun f => by
            have := he (upd f v false)
            simp only [Dt.ev, upd_self, Bool.false_eq_true, if_false] at this
            rwa [Dt.ev_upd ha.2.2.2.1 (by omega), Dt.ev_upd hb.2.2.2.1 (by omega)] at this
          have e2 : hi = hi' := ih hi hi' (v + 1) (v + 1) (by omega) ha.2.2.2.2 hb.2.2.2.2 fun f => by
            have := he (upd f v true)
            simp only [Dt.ev, upd_self, if_true] at this
            rwa [Dt.ev_upd ha.2.2.2.2 (by omega), Dt.ev_upd hb.2.2.2.2 (by omega)] at this
          rw [e1, e2]
        · exact (half w lo' hi' (.node v lo hi) v (by omega) hb.2.2.2.1 hb.2.2.2.2 ⟨Nat.le_refl _, ha.2⟩ hvw hb.2.2.1 (fun f => (he f).symm)).elim
theorem Dt.uniq {a b : Dt} {n m : Nat} (ha : a.ok n) (hb : b.ok m) (he : ∀ f, a.ev f = b.ev f) : a = b := Dt.canon _ a b n m (Nat.le_refl _) ha hb he

/-! ### lists of vertices -/
structure Gd (l : List Vtx) : Prop where
  len : 2 ≤ l.length
  var : ∀ k, 2 ≤ k → k < l.length → 0 ≤ (vx l k).1 ∧ (vx l k).1 < 10
  lo : ∀ k : Nat, 2 ≤ k → k < l.length → 0 ≤ (vx l k).2.1 ∧ (vx l k).2.1 < (k : Int)
  hi : ∀ k : Nat, 2 ≤ k → k < l.length → 0 ≤ (vx l k).2.2 ∧ (vx l k).2.2 < (k : Int)
  ne : ∀ k, 2 ≤ k → k < l.length → (vx l k).2.1 ≠ (vx l k).2.2
  olo : ∀ k, 2 ≤ k → k < l.length → 1 < (vx l k).2.1 → (vx l k).1 < (vx l (vx l k).2.1.toNat).1
  ohi : ∀ k, 2 ≤ k → k < l.length → 1 < (vx l k).2.2 → (vx l k).1 < (vx l (vx l k).2.2.toNat).1
  uq : ∀ j k, 2 ≤ j → j < l.length → 2 ≤ k → k < l.length → vx l j = vx l k → j = k

/-- the vertex 'i' stands for the tree -/
def Rep (l : List Vtx) : Dt → Int → Prop
  | .leaf b, i => i = if b = true then 1 else 0
  | .node v lo hi, i => ∃ k : Nat, i = (k : Int) ∧ 2 ≤ k ∧ k < l.length ∧ (vx l k).1 = (v : Int) ∧ Rep l lo (vx l k).2.1 ∧ Rep l hi (vx l k).2.2

theorem vx_app {l r : List Vtx} {k : Nat} (h : k < l.length) : vx (l ++ r) k = vx l k := by
  unfold vx; rw [List.getD_eq_getElem?_getD, List.getD_eq_getElem?_getD, List.getElem?_append_left h]
theorem vx_last {l : List Vtx} {x : Vtx} : vx (l ++ [x]) l.length = x := by simp [vx]

theorem Rep.mono {l r : List Vtx} : ∀ {t : Dt} {i : Int}, Rep l t i → Rep (l ++ r) t i := by
  intro t
  induction t with
  | leaf b => intro i h; exact h
  | node v lo hi ih1 ih2 =>
    rintro i ⟨k, h1, h2, h3, h4, h5, h6⟩
    refine ⟨k, h1, h2, by simp; omega, ?_, ?_, ?_⟩
    · rw [vx_app h3]; exact h4
    · rw [vx_app h3]; exact ih1 h5
    · rw [vx_app h3]; exact ih2 h6
theorem Rep.lt {l : List Vtx} (hl : 2 ≤ l.length) : ∀ {t : Dt} {i : Int}, Rep l t i → 0 ≤ i ∧ i < (l.length : Int)
  | .leaf b, i, h => by simp only [Rep] at h; subst h; split <;> omega
  | .node v lo hi, i, ⟨k, h1, h2, h3, _⟩ => by omega
theorem Rep.fn {l : List Vtx} : ∀ {t u : Dt} {i : Int}, Rep l t i → Rep l u i → t = u := by
  intro t
  induction t with
  | leaf b =>
    intro u i h1 h2
    cases u with
    | leaf c => simp only [Rep] at h1 h2; rw [h1] at h2; cases b <;> cases c <;> simp at h2 ⊢
    | node v lo hi => obtain ⟨k, h3, h4, _⟩ := h2; simp only [Rep] at h1; rw [h3] at h1; split at h1 <;> omega
  | node v lo hi ih1 ih2 =>
    rintro u i ⟨k, h1, h2, h3, h4, h5, h6⟩ hu
    cases u with
    | leaf c => simp only [Rep] at hu; rw [h1] at hu; split at hu <;> omega
    | node v' lo' hi' =>
      obtain ⟨k', g1, g2, g3, g4, g5, g6⟩ := hu
      obtain rfl : k = k' := by omega
      rw [ih1 h5 g5, ih2 h6 g6]
      have : v = v' := by rw [h4] at g4; omega
      rw [this]
theorem Rep.inj {l : List Vtx} (g : Gd l) : ∀ {t : Dt} {i j : Int}, Rep l t i → Rep l t j → i = j := by
  intro t
  induction t with
  | leaf b => intro i j h1 h2; simp only [Rep] at h1 h2; rw [h1, h2]
  | node v lo hi ih1 ih2 =>
    rintro i j ⟨k, h1, h2, h3, h4, h5, h6⟩ ⟨k', g1, g2, g3, g4, g5, g6⟩
    have e1 := ih1 h5 g5
    have e2 := ih2 h6 g6
    have : k = k' := g.uq k k' h2 h3 g2 g3 (Prod.ext (by rw [h4, g4]) (Prod.ext e1 e2))
    rw [h1, g1, this]
/-- where a vertex's tree begins -/
def lvl (l : List Vtx) (i : Nat) : Nat := if i < 2 then 10 else (vx l i).1.toNat
theorem Rep.ex {l : List Vtx} (g : Gd l) : ∀ k : Nat, k < l.length → ∃ t, Rep l t k ∧ t.ok (lvl l k) := by
  intro k
  induction k using Nat.strongRecOn with
  | _ k ih =>
    intro hk
    by_cases h2 : k < 2
    · refine ⟨.leaf (k == 1), ?_, trivial⟩
      simp only [Rep]
      obtain rfl | rfl : k = 0 ∨ k = 1 := by omega
      · rfl
      · rfl
    · have hv := g.var k (by omega) hk
      have hl := g.lo k (by omega) hk
      have hh := g.hi k (by omega) hk
      obtain ⟨t1, r1, o1⟩ := ih (vx l k).2.1.toNat (by omega) (by omega)
      obtain ⟨t2, r2, o2⟩ := ih (vx l k).2.2.toNat (by omega) (by omega)
      rw [Int.toNat_of_nonneg hl.1] at r1
      rw [Int.toNat_of_nonneg hh.1] at r2
      refine ⟨.node (vx l k).1.toNat t1 t2, ⟨k, rfl, by omega, hk, by omega, r1, r2⟩, ?_⟩
      have hlk : lvl l k = (vx l k).1.toNat := by simp [lvl, h2]
      refine ⟨by omega, by omega, ?_, Dt.ok_mono o1 ?_, Dt.ok_mono o2 ?_⟩
      · intro e; subst e; exact g.ne k (by omega) hk (Rep.inj g r1 r2)
      · unfold lvl
        split
        · omega
        · have := g.olo k (by omega) hk (by omega); omega
      · unfold lvl
        split
        · omega
        · have := g.ohi k (by omega) hk (by omega); omega

theorem fndL_spec (x : Vtx) : ∀ (l : List Vtx), fndL x l < l.length → vx l (fndL x l) = x := by
  intro l
  induction l with
  | nil => intro h; simp [fndL] at h
  | cons y l ih =>
    intro h
    simp only [fndL] at h ⊢
    split
    · rename_i e; simp [vx, e]
    · rename_i e
      rw [if_neg e] at h
      have := ih (by simp at h; omega)
      rw [Nat.add_comm]; simpa [vx] using this
theorem fndL_none (x : Vtx) : ∀ (l : List Vtx), ¬ fndL x l < l.length → ∀ j, j < l.length → vx l j ≠ x := by
  intro l
  induction l with
  | nil => intro _ j h; simp at h
  | cons y l ih =>
    intro h j hj
    simp only [fndL] at h
    split at h
    · simp at h
    · rename_i e
      cases j with
      | zero => simpa [vx] using e
      | succ j => have := ih (by simp at h; omega) j (by simpa using hj); simpa [vx] using this
theorem fnd_spec {x : Vtx} {l : List Vtx} (h : fnd x l < l.length) : 2 ≤ fnd x l ∧ vx l (fnd x l) = x := by
  unfold fnd at h ⊢
  have := fndL_spec x (l.drop 2) (by rw [List.length_drop]; omega)
  rw [vx_drop] at this
  exact ⟨by omega, by rw [Nat.add_comm]; exact this⟩
theorem fnd_none {x : Vtx} {l : List Vtx} (h : ¬ fnd x l < l.length) : ∀ j, 2 ≤ j → j < l.length → vx l j ≠ x := by
  intro j h2 hj
  unfold fnd at h
  have := fndL_none x (l.drop 2) (by rw [List.length_drop]; omega) (j - 2) (by rw [List.length_drop]; omega)
  rwa [vx_drop, show j - 2 + 2 = j by omega] at this
theorem fnd_len {x : Vtx} {l : List Vtx} (hl : 2 ≤ l.length) (h : ¬ fnd x l < l.length) : fnd x l = l.length := fnd_miss hl (fnd_none h)

/-! ### the numbering of a tree -/
def num : Dt → List Vtx → Int × List Vtx
  | .leaf b, l => (if b = true then 1 else 0, l)
  | .node v lo hi, l =>
    let a := num lo l
    let b := num hi a.2
    let x : Vtx := ((v : Int), a.1, b.1)
    ((fnd x b.2 : Int), if fnd x b.2 < b.2.length then b.2 else b.2 ++ [x])

theorem Rep.root {l : List Vtx} {t : Dt} {i : Int} {n : Nat} (h : Rep l t i) (ho : t.ok n) (hi : 1 < i) : (n : Int) ≤ (vx l i.toNat).1 := by
  cases t with
  | leaf b => simp only [Rep] at h; rw [h] at hi; split at hi <;> omega
  | node v lo hi' => obtain ⟨k, h1, h2, h3, h4, _⟩ := h; rw [h1, Int.toNat_natCast, h4]; have := ho.1; omega

/-- a new vertex -/
theorem Gd.snoc {l : List Vtx} (g : Gd l) {v : Nat} {a b : Int} {t u : Dt} (hv : v < 10) (ha : Rep l t a) (hb : Rep l u b) (ht : t.ok (v + 1)) (hu : u.ok (v + 1)) (hne : a ≠ b) (hx : ¬ fnd ((v : Int), a, b) l < l.length) : Gd (l ++ [((v : Int), a, b)]) := by
  have la := Rep.lt g.len ha
  have lb := Rep.lt g.len hb
  have ln : (l ++ [((v : Int), a, b)]).length = l.length + 1 := by simp
  have cs : ∀ k, 2 ≤ k → k < (l ++ [((v : Int), a, b)]).length → (k < l.length ∧ vx (l ++ [((v : Int), a, b)]) k = vx l k) ∨ (k = l.length ∧ vx (l ++ [((v : Int), a, b)]) k = ((v : Int), a, b)) := by
    intro k _ hk
    by_cases h : k < l.length
    · exact Or.inl ⟨h, vx_app h⟩
    · have : k = l.length := by omega
      subst this
      exact Or.inr ⟨rfl, vx_last⟩
  refine ⟨by have := g.len; omega, ?_, ?_, ?_, ?_, ?_, ?_, ?_⟩
  · intro k h2 hk
    rcases cs k h2 hk with ⟨h, e⟩ | ⟨h, e⟩ <;> rw [e]
    · exact g.var k h2 h
    · simp only; omega
  · intro k h2 hk
    rcases cs k h2 hk with ⟨h, e⟩ | ⟨h, e⟩ <;> rw [e]
    · exact g.lo k h2 h
    · simp only; omega
  · intro k h2 hk
    rcases cs k h2 hk with ⟨h, e⟩ | ⟨h, e⟩ <;> rw [e]
    · exact g.hi k h2 h
    · simp only; omega
  · intro k h2 hk
    rcases cs k h2 hk with ⟨h, e⟩ | ⟨h, e⟩ <;> rw [e]
    · exact g.ne k h2 h
    · exact hne
  · intro k h2 hk h1
    rcases cs k h2 hk with ⟨h, e⟩ | ⟨h, e⟩ <;> rw [e] at h1 ⊢
    · have := g.lo k h2 h; rw [vx_app (by omega)]; exact g.olo k h2 h h1
    · simp only at h1 ⊢; rw [vx_app (by omega)]; have := Rep.root ha ht h1; omega
  · intro k h2 hk h1
    rcases cs k h2 hk with ⟨h, e⟩ | ⟨h, e⟩ <;> rw [e] at h1 ⊢
    · have := g.hi k h2 h; rw [vx_app (by omega)]; exact g.ohi k h2 h h1
    · simp only at h1 ⊢; rw [vx_app (by omega)]; have := Rep.root hb hu h1; omega
  · intro j k hj1 hj hk1 hk e
    rcases cs j hj1 hj with ⟨h, e1⟩ | ⟨h, e1⟩ <;> rcases cs k hk1 hk with ⟨h', e2⟩ | ⟨h', e2⟩
    · rw [e1, e2] at e; exact g.uq j k hj1 h hk1 h' e
    · rw [e1, e2] at e; exact (fnd_none hx j hj1 h e).elim
    · rw [e1, e2] at e; exact (fnd_none hx k hk1 h' e.symm).elim
    · omega

/-- a vertex is found, or made -/
def put (x : Vtx) (l : List Vtx) : List Vtx := if fnd x l < l.length then l else l ++ [x]
theorem put_ok {l : List Vtx} (g : Gd l) {v : Nat} {a b : Int} {t u : Dt} (hv : v < 10) (ha : Rep l t a) (hb : Rep l u b) (ht : t.ok (v + 1)) (hu : u.ok (v + 1)) (hne : t ≠ u) :
    Gd (put ((v : Int), a, b) l) ∧ Rep (put ((v : Int), a, b) l) (.node v t u) (fnd ((v : Int), a, b) l : Int) ∧ ∃ r, put ((v : Int), a, b) l = l ++ r := by
  unfold put
  split
  · rename_i h
    obtain ⟨h1, h2⟩ := fnd_spec h
    exact ⟨g, ⟨_, rfl, h1, h, by rw [h2], by rw [h2]; exact ha, by rw [h2]; exact hb⟩, [], by simp⟩
  · rename_i h
    have hl := fnd_len g.len h
    refine ⟨g.snoc hv ha hb ht hu (fun e => hne (by subst e; exact ha.fn hb)) h, ⟨l.length, by rw [hl], g.len, by simp, ?_, ?_, ?_⟩, [_], rfl⟩
    · rw [vx_last]
    · rw [vx_last]; exact ha.mono
    · rw [vx_last]; exact hb.mono
theorem num_node (v : Nat) (lo hi : Dt) (l : List Vtx) : num (.node v lo hi) l = ((fnd ((v : Int), (num lo l).1, (num hi (num lo l).2).1) (num hi (num lo l).2).2 : Int), put ((v : Int), (num lo l).1, (num hi (num lo l).2).1) (num hi (num lo l).2).2) := rfl

theorem num_ok : ∀ (t : Dt) (l : List Vtx) (n : Nat), Gd l → t.ok n → Gd (num t l).2 ∧ Rep (num t l).2 t (num t l).1 ∧ ∃ r, (num t l).2 = l ++ r := by
  intro t
  induction t with
  | leaf b => intro l n g _; exact ⟨g, rfl, [], by simp [num]⟩
  | node v lo hi ih1 ih2 =>
    intro l n g ho
    obtain ⟨g1, r1, s1, e1⟩ := ih1 l (v + 1) g ho.2.2.2.1
    obtain ⟨g2, r2, s2, e2⟩ := ih2 (num lo l).2 (v + 1) g1 ho.2.2.2.2
    have r1' : Rep (num hi (num lo l).2).2 lo (num lo l).1 := by rw [e2]; exact r1.mono
    obtain ⟨g3, r3, s3, e3⟩ := put_ok g2 ho.2.1 r1' r2 ho.2.2.2.1 ho.2.2.2.2 ho.2.2.1
    rw [num_node]
    refine ⟨g3, r3, s1 ++ s2 ++ s3, ?_⟩
    simp only [e3]
    rw [e2, e1]; simp
theorem num_id {l : List Vtx} (g : Gd l) : ∀ (t : Dt) (i : Int), Rep l t i → num t l = (i, l) := by
  intro t
  induction t with
  | leaf b => intro i h; simp only [Rep] at h; rw [h]; rfl
  | node v lo hi ih1 ih2 =>
    rintro i ⟨k, h1, h2, h3, h4, h5, h6⟩
    have e1 := ih1 _ h5
    have e2 := ih2 _ h6
    rw [num_node, e1, e2, ← h4]
    have : fnd (vx l k) l = k := fnd_hit h2 (fun q q1 q2 e => by have := g.uq q k q1 (by omega) h2 h3 e; omega) rfl h3
    have e3 : ((vx l k).1, (vx l k).2.1, (vx l k).2.2) = vx l k := rfl
    simp only [e3, this, put, h3, if_true, h1]
theorem num_len : ∀ (t : Dt) (l : List Vtx) (n : Nat), t.ok n → n ≤ 10 → (num t l).2.length + 1 ≤ l.length + 2 ^ (10 - n) := by
  intro t
  induction t with
  | leaf b => intro l n _ _; simp only [num]; have := Nat.two_pow_pos (10 - n); omega
  | node v lo hi ih1 ih2 =>
    intro l n ho hn
    have h1 := ih1 l (v + 1) ho.2.2.2.1 (by have := ho.2.1; omega)
    have h2 := ih2 (num lo l).2 (v + 1) ho.2.2.2.2 (by have := ho.2.1; omega)
    have hv := ho.2.1
    have hp : 2 ^ (10 - v) = 2 * 2 ^ (10 - (v + 1)) := by rw [show 10 - v = (10 - (v + 1)) + 1 by omega, Nat.pow_succ]; omega
    have hq : 2 ^ (10 - v) ≤ 2 ^ (10 - n) := Nat.pow_le_pow_right (by decide) (by have := ho.1; omega)
    rw [num_node]
    simp only [put]
    split <;> (try simp only [List.length_append, List.length_cons, List.length_nil]) <;> omega

/-- the diagram of a tree -/
def cd (t : Dt) : List Vtx × Int := ((num t c01).2, (num t c01).1)
theorem gd01 : Gd c01 := by
  have h : c01.length = 2 := rfl
  exact ⟨by omega, fun k _ _ => by omega, fun k _ _ => by omega, fun k _ _ => by omega, fun k _ _ => by omega, fun k _ _ => by omega, fun k _ _ => by omega, fun j k _ _ _ _ => by omega⟩
theorem cd_len {t : Dt} {n : Nat} (h : t.ok n) (hn : n ≤ 10) : (cd t).1.length ≤ 1025 := by
  have := num_len t c01 n h hn
  have h2 : 2 ^ (10 - n) ≤ 2 ^ 10 := Nat.pow_le_pow_right (by decide) (by omega)
  have h3 : c01.length = 2 := rfl
  simp only [cd]; omega

/-! ### the tree of a table -/
def red : Nat → List Bool → Dt
  | 0, t => .leaf (bt t 0)
  | k + 1, t => if red k (t.take (2 ^ k)) = red k (t.drop (2 ^ k)) then red k (t.take (2 ^ k)) else .node (9 - k) (red k (t.take (2 ^ k))) (red k (t.drop (2 ^ k)))
theorem bt_take {t : List Bool} {n j : Nat} (h : j < n) : bt (t.take n) j = bt t j := by
  unfold bt; rw [List.getD_eq_getElem?_getD, List.getD_eq_getElem?_getD, List.getElem?_take, if_pos h]
theorem bt_drop {t : List Bool} {n j : Nat} : bt (t.drop n) j = bt t (n + j) := by
  unfold bt; rw [List.getD_eq_getElem?_getD, List.getD_eq_getElem?_getD, List.getElem?_drop]
theorem red_same : ∀ (k : Nat) (t : List Bool), (∀ j, j < 2 ^ k → bt t j = bt t 0) → red k t = .leaf (bt t 0) := by
  intro k
  induction k with
  | zero => intro t _; rfl
  | succ k ih =>
    intro t h
    have hp := Nat.two_pow_pos k
    rw [Nat.pow_succ] at h
    have e1 := ih (t.take (2 ^ k)) (fun j hj => by rw [bt_take hj, bt_take hp]; exact h j (by omega))
    have e2 := ih (t.drop (2 ^ k)) (fun j hj => by rw [bt_drop, bt_drop, h (2 ^ k + j) (by omega), h (2 ^ k + 0) (by omega)])
    rw [bt_take hp] at e1
    rw [bt_drop, h (2 ^ k + 0) (by omega)] at e2
    simp only [red, e1, e2, if_true]
theorem red_ok : ∀ (k : Nat) (t : List Bool), k ≤ 10 → (red k t).ok (10 - k) := by
  intro k
  induction k with
  | zero => intro t _; trivial
  | succ k ih =>
    intro t hk
    simp only [red]
    split
    · exact Dt.ok_mono (ih _ (by omega)) (by omega)
    · rename_i h
      exact ⟨by omega, by omega, h, Dt.ok_mono (ih _ (by omega)) (by omega), Dt.ok_mono (ih _ (by omega)) (by omega)⟩
theorem bld_num : ∀ (k : Nat) (t : List Bool) (l : List Vtx), k ≤ 10 → t.length = 2 ^ k → Gd l → bld k t l = num (red k t) l := by
  intro k
  induction k with
  | zero => intro t l _ _ _; rfl
  | succ k ih =>
    intro t l hk hlen g
    have hp : 2 ^ (k + 1) = 2 * 2 ^ k := by rw [Nat.pow_succ]; omega
    by_cases hs : allSame t = true
    · rw [bld_same hs]
      have hs' : ∀ j, j < t.length → bt t j = bt t 0 := by simpa [allSame] using hs
      rw [red_same (k + 1) t (fun j hj => hs' j (by omega))]; rfl
    · have h1 := ih (t.take (2 ^ k)) l (by omega) (by simp; omega) g
      obtain ⟨g1, r1, s1, e1⟩ := num_ok (red k (t.take (2 ^ k))) l _ g (red_ok k _ (by omega))
      have h2 := ih (t.drop (2 ^ k)) (num (red k (t.take (2 ^ k))) l).2 (by omega) (by simp; omega) g1
      obtain ⟨g2, r2, s2, e2⟩ := num_ok (red k (t.drop (2 ^ k))) _ _ g1 (red_ok k _ (by omega))
      have hs0 : allSame t = false := by simpa using hs
      simp only [bld, hs0, Bool.false_eq_true, if_false, h1, h2, red]
      by_cases he : red k (t.take (2 ^ k)) = red k (t.drop (2 ^ k))
      · rw [if_pos he, ← he, num_id g1 _ _ r1]; simp
      · have r1' : Rep (num (red k (t.drop (2 ^ k))) (num (red k (t.take (2 ^ k))) l).2).2 (red k (t.take (2 ^ k))) (num (red k (t.take (2 ^ k))) l).1 := by rw [e2]; exact r1.mono
        have hne : (num (red k (t.take (2 ^ k))) l).1 ≠ (num (red k (t.drop (2 ^ k))) (num (red k (t.take (2 ^ k))) l).2).1 := fun e => he (r1'.fn (by rw [e]; exact r2))
        rw [if_neg he, if_neg hne, num_node, put, show ((9 - k : Nat) : Int) = 9 - (k : Int) by omega]
/-- the place of an assignment in a table that is ordered by the variable 10 - k first -/
def idx (f : As) : Nat → Nat
  | 0 => 0
  | k + 1 => if f (9 - k) = true then 2 ^ k + idx f k else idx f k
theorem idx_lt (f : As) : ∀ k, idx f k < 2 ^ k := by
  intro k
  induction k with
  | zero => simp [idx]
  | succ k ih => simp only [idx]; rw [Nat.pow_succ]; split <;> omega
theorem red_ev (f : As) : ∀ (k : Nat) (t : List Bool), k ≤ 10 → (red k t).ev f = bt t (idx f k) := by
  intro k
  induction k with
  | zero => intro t _; rfl
  | succ k ih =>
    intro t hk
    have e1 := ih (t.take (2 ^ k)) (by omega)
    have e2 := ih (t.drop (2 ^ k)) (by omega)
    rw [bt_take (idx_lt f k)] at e1
    rw [bt_drop] at e2
    simp only [red, idx]
    split
    · rename_i h
      split
      · rw [h, e2]
      · exact e1
    · simp only [Dt.ev]
      split
      · exact e2
      · exact e1
/-- the bits of a number -/
def bits (n : Nat) : As := fun i => bitF i n
theorem idx_bits_all : (List.range 1024).all (fun n => idx (bits n) 10 == rv n 10) = true := by kernel_rfl
theorem idx_bits {n : Nat} (h : n < 1024) : idx (bits n) 10 = rv n 10 := by
  have := List.all_eq_true.1 idx_bits_all n (List.mem_range.2 h)
  simpa using this
theorem idx_congr {f g : As} : ∀ k, k ≤ 10 → (∀ i, i < 10 → f i = g i) → idx f k = idx g k := by
  intro k
  induction k with
  | zero => intro _ _; rfl
  | succ k ih => intro hk h; simp only [idx, h (9 - k) (by omega), ih (by omega) h]
/-- the number of an assignment -/
def code (f : As) : Nat := rv (idx f 10) 10
theorem code_lt (f : As) : code f < 1024 := rv_lt _ 10
theorem code_bits {n : Nat} (h : n < 1024) : code (bits n) = n := by rw [code, idx_bits h, rv_rv h]
theorem rv_bit_all : (List.range 1024).all (fun n => (List.range 10).all fun i => bitF i (rv n 10) == bitF (9 - i) n) = true := by kernel_rfl
theorem rv_bit {n i : Nat} (h : n < 1024) (hi : i < 10) : bitF i (rv n 10) = bitF (9 - i) n := by
  have := List.all_eq_true.1 (List.all_eq_true.1 rv_bit_all n (List.mem_range.2 h)) i (List.mem_range.2 hi)
  simpa using this
theorem bitF_eq (i n : Nat) : bitF i n = n.testBit i := by
  rw [bitF, Nat.testBit_eq_decide_div_mod_eq]
  by_cases h : n / 2 ^ i % 2 = 1
  · rw [h]; rfl
  · have : n / 2 ^ i % 2 = 0 := by omega
    rw [this]; rfl
theorem idx_bit (f : As) : ∀ (k : Nat), k ≤ 10 → ∀ j, j < k → (idx f k).testBit j = f (9 - j) := by
  intro k
  induction k with
  | zero => intro _ j hj; omega
  | succ k ih =>
    intro hk j hj
    simp only [idx]
    by_cases hjk : j = k
    · subst hjk
      split
      · rename_i h; rw [Nat.testBit_two_pow_add_eq, Nat.testBit_lt_two_pow (idx_lt f j), h]; rfl
      · rename_i h; rw [Nat.testBit_lt_two_pow (idx_lt f j)]; simpa using h
    · split
      · rw [Nat.testBit_two_pow_add_gt (by omega)]; exact ih (by omega) j (by omega)
      · exact ih (by omega) j (by omega)
theorem bits_code (f : As) {i : Nat} (hi : i < 10) : bits (code f) i = f i := by
  have h := rv_bit (n := idx f 10) (i := i) (idx_lt f 10) hi
  rw [bits, code, h, bitF_eq, idx_bit f 10 (by omega) (9 - i) (by omega)]
  congr 1; omega
/-- the tree of a table of 1024 entries -/
theorem tt_ex (t : List Bool) : ∃ T : Dt, T = red 10 (turn t 1024) := ⟨_, rfl⟩
noncomputable def tt (t : List Bool) : Dt := (tt_ex t).choose
theorem tt_eq (t : List Bool) : tt t = red 10 (turn t 1024) := (tt_ex t).choose_spec
theorem tt_ok (t : List Bool) : (tt t).ok 0 := by
  obtain ⟨k, hk⟩ : ∃ k, k = 10 := ⟨_, rfl⟩
  rw [tt_eq, ← hk]
  exact Dt.ok_mono (red_ok k _ (by omega)) (by omega)
theorem tt_ev (t : List Bool) (f : As) : (tt t).ev f = bt t (code f) := by
  rw [tt_eq, red_ev f 10 _ (Nat.le_refl _), bt_turn t _ (idx_lt f 10) 1024 (Nat.le_refl _), if_pos (rv_lt _ 10)]; rfl
theorem dgm_cd (t : List Bool) : dgm t = cd (tt t) := by
  rw [dgm_eq, bld_num 10 _ c01 (Nat.le_refl _) (turn_len t 1024) gd01, ← tt_eq]; rfl
end Go.Proofs.Ytlealdhgajomhaa
