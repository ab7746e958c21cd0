/- Which lists of vertices are diagrams of trees: plain. -/
import Derived.Test.YtlealdhgajomhaaBddT
namespace Go.Proofs.Ytlealdhgajomhaa
set_option linter.unusedVariables false
open Go.AI
set_option linter.unusedSimpArgs false

/-- the order in which a traversal leaves the vertices -/
def ordT (l : List Vtx) : Dt → Int → List Int → List Int
  | .leaf _, _, dn => dn
  | .node _ lo hi, i, dn => if i ∈ dn then dn else ordT l hi (vx l i.toNat).2.2 (ordT l lo (vx l i.toNat).2.1 dn) ++ [i]
def rng (n : Nat) : List Int := (List.range n).map fun (k : Nat) => (k : Int) + 2
theorem rng_len (n : Nat) : (rng n).length = n := by simp [rng]
theorem rng_s (n : Nat) : rng (n + 1) = rng n ++ [(n : Int) + 2] := by simp [rng, List.range_succ]
theorem mem_rng {n : Nat} {i : Int} : i ∈ rng n ↔ 2 ≤ i ∧ i < (n : Int) + 2 := by
  simp only [rng, List.mem_map, List.mem_range]
  constructor
  · rintro ⟨k, h, rfl⟩; omega
  · intro h; exact ⟨(i - 2).toNat, by omega, by omega⟩
theorem rng_at {n p : Nat} (h : p < (rng n).length) : (rng n)[p] = (p : Int) + 2 := by simp [rng]

theorem rng_take (n q : Nat) : (rng n).take q = rng (min q n) := by simp [rng, ← List.map_take, List.take_range]

theorem ordT_app (l : List Vtx) : ∀ (t : Dt) (i : Int) (dn : List Int), ∃ s, ordT l t i dn = dn ++ s := by
  intro t
  induction t with
  | leaf b => intro i dn; exact ⟨[], by simp [ordT]⟩
  | node v lo hi ih1 ih2 =>
    intro i dn
    simp only [ordT]
    split
    · exact ⟨[], by simp⟩
    · obtain ⟨s1, e1⟩ := ih1 (vx l i.toNat).2.1 dn
      obtain ⟨s2, e2⟩ := ih2 (vx l i.toNat).2.2 (ordT l lo (vx l i.toNat).2.1 dn)
      exact ⟨s1 ++ s2 ++ [i], by rw [e2, e1]; simp⟩
theorem Rep.pre {l r : List Vtx} (g : Gd l) {t : Dt} {k : Nat} (h : Rep (l ++ r) t k) (hk : k < l.length) : Rep l t k := by
  obtain ⟨u, h1, _⟩ := Rep.ex g k hk
  rw [Rep.fn h h1.mono]; exact h1
/-- a new vertex stands for a small tree -/
theorem num_new : ∀ (t : Dt) (l : List Vtx) (n : Nat), Gd l → t.ok n → ∀ k : Nat, l.length ≤ k → k < (num t l).2.length → ∀ u, Rep (num t l).2 u k → u.size ≤ t.size := by
  intro t
  induction t with
  | leaf b => intro l n _ _ k h1 h2; simp only [num] at h2; omega
  | node v lo hi ih1 ih2 =>
    intro l n g ho k h1 h2 u hu
    obtain ⟨g1, r1, s1, e1⟩ := num_ok lo l (v + 1) g ho.2.2.2.1
    obtain ⟨g2, r2, s2, e2⟩ := num_ok hi (num lo l).2 (v + 1) g1 ho.2.2.2.2
    obtain ⟨g3, r3, s3, e3⟩ := num_ok (.node v lo hi) l n g ho
    have r1' : Rep (num hi (num lo l).2).2 lo (num lo l).1 := by rw [e2]; exact r1.mono
    obtain ⟨_, r4, s4, e4⟩ := put_ok g2 ho.2.1 r1' r2 ho.2.2.2.1 ho.2.2.2.2 ho.2.2.1
    simp only [num_node] at hu h2
    rw [e4] at hu
    by_cases q1 : k < (num lo l).2.length
    · have : Rep (num lo l).2 u k := by rw [e2, List.append_assoc] at hu; exact hu.pre g1 q1
      have := ih1 l (v + 1) g ho.2.2.2.1 k h1 q1 u this
      simp only [Dt.size]; omega
    · by_cases q2 : k < (num hi (num lo l).2).2.length
      · have := ih2 _ (v + 1) g1 ho.2.2.2.2 k (by omega) q2 u (hu.pre g2 q2)
        simp only [Dt.size]; omega
      · have hm : ¬ fnd ((v : Int), (num lo l).1, (num hi (num lo l).2).1) (num hi (num lo l).2).2 < (num hi (num lo l).2).2.length := by
          intro h; rw [put, if_pos h] at h2; omega
        have hl := fnd_len g2.len hm
        rw [put, if_neg hm, List.length_append, List.length_cons, List.length_nil] at h2
        have : k = fnd ((v : Int), (num lo l).1, (num hi (num lo l).2).1) (num hi (num lo l).2).2 := by omega
        rw [← e4, this] at hu
        rw [Rep.fn hu r4]; exact Nat.le_refl _
/-- a tree that is not there yet -/
theorem num_root {v : Nat} {lo hi : Dt} {l : List Vtx} {n : Nat} (g : Gd l) (ho : (Dt.node v lo hi).ok n) (h : (l.length : Int) ≤ (num (.node v lo hi) l).1) :
    ¬ fnd ((v : Int), (num lo l).1, (num hi (num lo l).2).1) (num hi (num lo l).2).2 < (num hi (num lo l).2).2.length := by
  obtain ⟨g1, r1, s1, e1⟩ := num_ok lo l (v + 1) g ho.2.2.2.1
  obtain ⟨g2, r2, s2, e2⟩ := num_ok hi (num lo l).2 (v + 1) g1 ho.2.2.2.2
  have r1' : Rep (num hi (num lo l).2).2 lo (num lo l).1 := by rw [e2]; exact r1.mono
  obtain ⟨_, r4, s4, e4⟩ := put_ok g2 ho.2.1 r1' r2 ho.2.2.2.1 ho.2.2.2.2 ho.2.2.1
  intro hf
  simp only [num_node] at h
  rw [put, if_pos hf] at r4
  generalize hk : fnd ((v : Int), (num lo l).1, (num hi (num lo l).2).1) (num hi (num lo l).2).2 = k at *
  by_cases q : k < (num lo l).2.length
  · have : Rep (num lo l).2 (.node v lo hi) k := by rw [e2] at r4; exact r4.pre g1 q
    have := num_new lo l (v + 1) g ho.2.2.2.1 k (by omega) q _ this
    simp only [Dt.size] at this; omega
  · have := num_new hi _ (v + 1) g1 ho.2.2.2.2 k (by omega) hf _ r4
    simp only [Dt.size] at this; omega

theorem ord_num : ∀ (t : Dt) (L r : List Vtx) (n : Nat), Gd L → t.ok n → ordT ((num t L).2 ++ r) t (num t L).1 (rng (L.length - 2)) = rng ((num t L).2.length - 2) := by
  intro t
  induction t with
  | leaf b => intro L r n _ _; rfl
  | node v lo hi ih1 ih2 =>
    intro L r n g ho
    obtain ⟨g1, r1, s1, e1⟩ := num_ok lo L (v + 1) g ho.2.2.2.1
    obtain ⟨g2, r2, s2, e2⟩ := num_ok hi (num lo L).2 (v + 1) g1 ho.2.2.2.2
    obtain ⟨g3, r3, s3, e3⟩ := num_ok (.node v lo hi) L n g ho
    have hlt := Rep.lt g3.len r3
    have hg := g.len
    by_cases hin : (num (.node v lo hi) L).1 < (L.length : Int)
    · obtain ⟨k, hk⟩ : ∃ k : Nat, (num (.node v lo hi) L).1 = k := ⟨_, (Int.toNat_of_nonneg hlt.1).symm⟩
      have h2 : 2 ≤ k := by obtain ⟨k', h1, h2, _⟩ := r3; omega
      have hr : Rep L (.node v lo hi) k := by rw [e3, hk] at r3; exact r3.pre g (by omega)
      have := num_id g _ _ hr
      rw [this]
      simp only [ordT]
      rw [if_pos (mem_rng.2 (by omega))]
    · have hm := num_root g ho (by omega)
      have hl := fnd_len g2.len hm
      have hq : num (.node v lo hi) L = (((num hi (num lo L).2).2.length : Int), (num hi (num lo L).2).2 ++ [((v : Int), (num lo L).1, (num hi (num lo L).2).1)]) := by
        rw [num_node, put, if_neg hm, hl]
      rw [hq] at hin hlt ⊢
      simp only at hin hlt ⊢
      simp only [ordT]
      rw [if_neg (by rw [mem_rng]; omega), Int.toNat_natCast]
      have hx : vx ((num hi (num lo L).2).2 ++ [((v : Int), (num lo L).1, (num hi (num lo L).2).1)] ++ r) (num hi (num lo L).2).2.length = ((v : Int), (num lo L).1, (num hi (num lo L).2).1) := by
        rw [vx_app (by simp), vx_last]
      rw [hx]
      have q2 := ih2 (num lo L).2 ([((v : Int), (num lo L).1, (num hi (num lo L).2).1)] ++ r) (v + 1) g1 ho.2.2.2.2
      have q1 := ih1 L (s2 ++ ([((v : Int), (num lo L).1, (num hi (num lo L).2).1)] ++ r)) (v + 1) g ho.2.2.2.1
      rw [← List.append_assoc, ← e2, ← List.append_assoc] at q1
      rw [← List.append_assoc] at q2
      simp only [q1, q2]
      have h2 := g2.len
      rw [List.length_append, List.length_cons, List.length_nil, show (num hi (num lo L).2).2.length + (0 + 1) - 2 = (num hi (num lo L).2).2.length - 2 + 1 by omega, rng_s]
      congr 2; omega

/-! ### the other way round -/
structure Vis (l : List Vtx) (dn : List Int) (L : List Vtx) : Prop where
  gd : Gd L
  len : L.length = dn.length + 2
  mp : ∀ (p : Nat) (h : p < dn.length), ∃ t, Rep l t dn[p] ∧ Rep L t ((p : Int) + 2)
theorem ord_new {l : List Vtx} : ∀ (t : Dt) (i : Int) (dn : List Int), Rep l t i → ∀ j ∈ ordT l t i dn, j ∈ dn ∨ ∃ u, Rep l u j ∧ u.size ≤ t.size := by
  intro t
  induction t with
  | leaf b => intro i dn _ j hj; exact Or.inl hj
  | node v lo hi ih1 ih2 =>
    intro i dn hr j hj
    have hr' := hr
    obtain ⟨k, rfl, h2, h3, h4, h5, h6⟩ := hr
    simp only [ordT, Int.toNat_natCast] at hj
    split at hj
    · exact Or.inl hj
    · rw [List.mem_append] at hj
      rcases hj with hj | hj
      · rcases ih2 _ _ h6 j hj with hj | ⟨u, q1, q2⟩
        · rcases ih1 _ _ h5 j hj with hj | ⟨u, q1, q2⟩
          · exact Or.inl hj
          · exact Or.inr ⟨u, q1, by simp only [Dt.size]; omega⟩
        · exact Or.inr ⟨u, q1, by simp only [Dt.size]; omega⟩
      · rw [List.mem_singleton] at hj; subst hj; exact Or.inr ⟨_, hr', Nat.le_refl _⟩
theorem vis_step {l : List Vtx} (g : Gd l) : ∀ (t : Dt) (i : Int) (dn : List Int) (L : List Vtx) (n : Nat), Rep l t i → t.ok n → Vis l dn L → Vis l (ordT l t i dn) (num t L).2 := by
  intro t
  induction t with
  | leaf b => intro i dn L n _ _ h; exact h
  | node v lo hi ih1 ih2 =>
    intro i dn L n hr ho hv
    have hr' := hr
    obtain ⟨k, rfl, h2, h3, h4, h5, h6⟩ := hr
    simp only [ordT, Int.toNat_natCast]
    split
    · rename_i hin
      obtain ⟨p, hp, hpe⟩ := List.getElem_of_mem hin
      obtain ⟨u, q1, q2⟩ := hv.mp p hp
      rw [hpe] at q1
      have := Rep.fn q1 hr'
      subst this
      rw [num_id hv.gd _ _ q2]; exact hv
    · rename_i hin
      have v1 := ih1 _ dn L (v + 1) h5 ho.2.2.2.1 hv
      have v2 := ih2 _ _ _ (v + 1) h6 ho.2.2.2.2 v1
      obtain ⟨g1, r1, s1, e1⟩ := num_ok lo L (v + 1) hv.gd ho.2.2.2.1
      obtain ⟨g2, r2, s2, e2⟩ := num_ok hi (num lo L).2 (v + 1) g1 ho.2.2.2.2
      have r1' : Rep (num hi (num lo L).2).2 lo (num lo L).1 := by rw [e2]; exact r1.mono
      have hp := put_ok g2 ho.2.1 r1' r2 ho.2.2.2.1 ho.2.2.2.2 ho.2.2.1
      have hni : (k : Int) ∉ ordT l hi (vx l k).2.2 (ordT l lo (vx l k).2.1 dn) := by
        intro hm
        rcases ord_new hi _ _ h6 _ hm with hm | ⟨u, q1, q2⟩
        · rcases ord_new lo _ _ h5 _ hm with hm | ⟨u, q1, q2⟩
          · exact hin hm
          · have := Rep.fn q1 hr'; subst this; simp only [Dt.size] at q2; omega
        · have := Rep.fn q1 hr'; subst this; simp only [Dt.size] at q2; omega
      have hm : ¬ fnd ((v : Int), (num lo L).1, (num hi (num lo L).2).1) (num hi (num lo L).2).2 < (num hi (num lo L).2).2.length := by
        intro hf
        have hf2 := (fnd_spec hf).1
        obtain ⟨_, r4, _⟩ := hp
        rw [put, if_pos hf] at r4
        generalize fnd ((v : Int), (num lo L).1, (num hi (num lo L).2).1) (num hi (num lo L).2).2 = q at *
        have hl := v2.len
        obtain ⟨u, q1, q2⟩ := v2.mp (q - 2) (by omega)
        rw [show ((q - 2 : Nat) : Int) + 2 = (q : Int) by omega] at q2
        have := Rep.fn q2 r4
        subst this
        have := Rep.inj g q1 hr'
        exact hni (this ▸ List.getElem_mem _)
      have hl := fnd_len g2.len hm
      rw [num_node]
      obtain ⟨p1, p2, _⟩ := hp
      simp only at p1 p2 ⊢
      refine ⟨p1, ?_, ?_⟩
      · rw [put, if_neg hm]; simp [v2.len]
      · intro p hp
        rw [List.length_append, List.length_cons, List.length_nil] at hp
        by_cases hlt : p < (ordT l hi (vx l k).2.2 (ordT l lo (vx l k).2.1 dn)).length
        · obtain ⟨u, q1, q2⟩ := v2.mp p hlt
          refine ⟨u, by rw [List.getElem_append_left hlt]; exact q1, ?_⟩
          rw [put, if_neg hm]; exact q2.mono
        · have : p = (ordT l hi (vx l k).2.2 (ordT l lo (vx l k).2.1 dn)).length := by omega
          subst this
          refine ⟨_, by rw [List.getElem_append_right (Nat.le_refl _)]; simpa using hr', ?_⟩
          rw [hl] at p2
          have h2 := v2.len
          rwa [h2, Int.natCast_add] at p2

theorem num_of_ord {l : List Vtx} (g : Gd l) (h0 : vx l 0 = (-1, 0, 0)) (h1 : vx l 1 = (-1, 1, 1)) {t : Dt} {i : Int} {n : Nat} (hr : Rep l t i) (ho : t.ok n) (he : ordT l t i [] = rng (l.length - 2)) : num t c01 = (i, l) := by
  have v0 : Vis l [] c01 := ⟨gd01, rfl, fun p h => by simp at h⟩
  have v1 := vis_step g t i [] c01 n hr ho v0
  rw [he] at v1
  obtain ⟨g1, r1, s1, e1⟩ := num_ok t c01 n gd01 ho
  have hlen := v1.len
  have hg := g.len
  rw [rng_len] at hlen
  have hall : ∀ k : Nat, 2 ≤ k → k < l.length → ∃ u, Rep l u k ∧ Rep (num t c01).2 u k := by
    intro k h2 hk
    obtain ⟨u, q1, q2⟩ := v1.mp (k - 2) (by rw [rng_len]; omega)
    rw [rng_at] at q1
    rw [show ((k - 2 : Nat) : Int) + 2 = (k : Int) by omega] at q1 q2
    exact ⟨u, q1, q2⟩
  have child : ∀ (u : Dt) (a b : Int), Rep l u a → Rep (num t c01).2 u b → a = b := by
    intro u a b q1 q2
    cases u with
    | leaf c => simp only [Rep] at q1 q2; rw [q1, q2]
    | node w x y =>
      have q1' := q1
      obtain ⟨k, rfl, k2, k3, _⟩ := q1
      obtain ⟨u', p1, p2⟩ := hall k k2 k3
      have := Rep.fn p1 q1'
      subst this
      exact Rep.inj g1 p2 q2
  have heq : l = (num t c01).2 := by
    refine List.ext_getElem (by omega) fun k k1 k2 => ?_
    have hv : vx l k = vx (num t c01).2 k := by
      by_cases hk : k < 2
      · have : vx (num t c01).2 k = vx c01 k := by rw [e1]; exact vx_app hk
        rw [this]
        obtain rfl | rfl : k = 0 ∨ k = 1 := by omega
        · exact h0
        · exact h1
      · obtain ⟨u, q1, q2⟩ := hall k (by omega) k1
        cases u with
        | leaf c => simp only [Rep] at q1; split at q1 <;> omega
        | node w x y =>
          obtain ⟨k', a1, _, _, a4, a5, a6⟩ := q1
          obtain ⟨k'', b1, _, _, b4, b5, b6⟩ := q2
          obtain rfl : k = k' := by omega
          obtain rfl : k = k'' := by omega
          exact Prod.ext (by rw [a4, b4]) (Prod.ext (child _ _ _ a5 b5) (child _ _ _ a6 b6))
    simpa [vx, k1, k2] using hv
  refine Prod.ext ?_ heq.symm
  exact (child t i _ hr r1).symm

def ValidD (d : List Vtx × Int) : Prop := Gd d.1 ∧ vx d.1 0 = (-1, 0, 0) ∧ vx d.1 1 = (-1, 1, 1) ∧
  ((d.1.length = 2 ∧ (d.2 = 0 ∨ d.2 = 1)) ∨ (2 < d.1.length ∧ d.2 = (d.1.length : Int) - 1 ∧ ∃ t, Rep d.1 t d.2 ∧ ordT d.1 t d.2 [] = rng (d.1.length - 2)))
theorem two_eq {l : List Vtx} (h : l.length = 2) (h0 : vx l 0 = (-1, 0, 0)) (h1 : vx l 1 = (-1, 1, 1)) : l = c01 := by
  match l, h with
  | [a, b], _ => simp only [vx, List.getD_cons_zero, List.getD_cons_succ] at h0 h1; rw [h0, h1]; rfl
theorem valid_cd {d : List Vtx × Int} (h : ValidD d) : ∃ t, t.ok 0 ∧ d = cd t := by
  obtain ⟨g, h0, h1, ⟨h2, h3⟩ | ⟨h2, h3, t, h4, h5⟩⟩ := h
  · have := two_eq h2 h0 h1
    rcases h3 with h3 | h3
    · exact ⟨.leaf false, trivial, Prod.ext this h3⟩
    · exact ⟨.leaf true, trivial, Prod.ext this h3⟩
  · obtain ⟨u, q1, q2⟩ := Rep.ex g (d.1.length - 1) (by omega)
    rw [show ((d.1.length - 1 : Nat) : Int) = d.2 by omega] at q1
    have := Rep.fn q1 h4
    subst this
    have := num_of_ord g h0 h1 h4 q2 h5
    exact ⟨u, Dt.ok_mono q2 (by omega), by rw [cd, this]⟩
theorem cd_valid {t : Dt} (h : t.ok 0) : ValidD (cd t) := by
  obtain ⟨g1, r1, s1, e1⟩ := num_ok t c01 0 gd01 h
  have hx : ∀ k, k < 2 → vx (num t c01).2 k = vx c01 k := fun k hk => by rw [e1]; exact vx_app hk
  refine ⟨g1, hx 0 (by omega), hx 1 (by omega), ?_⟩
  cases t with
  | leaf b => refine Or.inl ⟨rfl, ?_⟩; cases b <;> simp [cd, num]
  | node v lo hi =>
    have hlt := Rep.lt g1.len r1
    have h2 : 2 ≤ (num (.node v lo hi) c01).1 := by obtain ⟨k, h1, h2, _⟩ := r1; omega
    have hm := num_root gd01 h (by exact h2)
    obtain ⟨ga, ra, sa, ea⟩ := num_ok lo c01 (v + 1) gd01 h.2.2.2.1
    obtain ⟨gb, rb, sb, eb⟩ := num_ok hi (num lo c01).2 (v + 1) ga h.2.2.2.2
    have hl := fnd_len gb.len hm
    have hq : num (.node v lo hi) c01 = (((num hi (num lo c01).2).2.length : Int), (num hi (num lo c01).2).2 ++ [((v : Int), (num lo c01).1, (num hi (num lo c01).2).1)]) := by
      rw [num_node, put, if_neg hm, hl]
    refine Or.inr ⟨by simp only [cd]; omega, ?_, .node v lo hi, r1, ?_⟩
    · simp only [cd, hq, List.length_append, List.length_cons, List.length_nil]; omega
    · have := ord_num (.node v lo hi) c01 [] 0 gd01 h
      rw [List.append_nil] at this
      exact this

/-! ### the program's traversal -/
def pvT (l : List Vtx) : Dt → Int → Nat → Option Nat
  | .leaf _, _, nx => some nx
  | .node _ lo hi, i, nx => if i < (nx : Int) then some nx else
    (pvT l lo (vx l i.toNat).2.1 nx).bind fun n1 => (pvT l hi (vx l i.toNat).2.2 n1).bind fun n2 => if i = (n2 : Int) then some (n2 + 1) else none
theorem pvT_ord (l : List Vtx) : ∀ (t : Dt) (i : Int) (nx : Nat), Rep l t i → 2 ≤ nx → (∀ m, pvT l t i nx = some m → nx ≤ m ∧ ordT l t i (rng (nx - 2)) = rng (m - 2)) ∧ (∀ m, ordT l t i (rng (nx - 2)) = rng m → pvT l t i nx = some (m + 2)) := by
  intro t
  induction t with
  | leaf b =>
    intro i nx _ h2
    refine ⟨fun m h => ?_, fun m h => ?_⟩
    · simp only [pvT, Option.some.injEq] at h; subst h; exact ⟨Nat.le_refl _, rfl⟩
    · have := congrArg List.length h
      simp only [ordT, rng_len] at this
      simp only [pvT, Option.some.injEq]; omega
  | node v lo hi ih1 ih2 =>
    intro i nx hr h2
    obtain ⟨k, rfl, k2, k3, k4, k5, k6⟩ := hr
    simp only [pvT, ordT, Int.toNat_natCast]
    by_cases hlt : (k : Int) < (nx : Int)
    · rw [if_pos hlt, if_pos (mem_rng.2 (by omega))]
      refine ⟨fun m h => ?_, fun m h => ?_⟩
      · simp only [Option.some.injEq] at h; subst h; exact ⟨Nat.le_refl _, rfl⟩
      · have := congrArg List.length h
        simp only [rng_len] at this
        simp only [Option.some.injEq]; omega
    · rw [if_neg hlt, if_neg (by rw [mem_rng]; omega)]
      obtain ⟨a1, a2⟩ := ih1 _ nx k5 h2
      refine ⟨fun m h => ?_, fun m h => ?_⟩
      · simp only [Option.bind_eq_some_iff] at h
        obtain ⟨n1, q1, n2, q2, q3⟩ := h
        obtain ⟨b1, b2⟩ := a1 n1 q1
        obtain ⟨c1, c2⟩ := (ih2 _ n1 k6 (by omega)).1 n2 q2
        split at q3
        · rename_i q4
          simp only [Option.some.injEq] at q3
          subst q3
          refine ⟨by omega, ?_⟩
          rw [b2, c2, show n2 + 1 - 2 = n2 - 2 + 1 by omega, rng_s]
          congr 2; omega
        · cases q3
      · obtain ⟨s1, e1⟩ := ordT_app l lo (vx l k).2.1 (rng (nx - 2))
        obtain ⟨s2, e2⟩ := ordT_app l hi (vx l k).2.2 (ordT l lo (vx l k).2.1 (rng (nx - 2)))
        have hm : m ≠ 0 := by rintro rfl; have := congrArg List.length h; rw [rng_len] at this; simp at this
        obtain ⟨m', rfl⟩ : ∃ m', m = m' + 1 := ⟨m - 1, by omega⟩
        rw [rng_s] at h
        have hk := List.append_inj' h rfl
        obtain ⟨hA, hB⟩ := hk
        simp only [List.cons.injEq, and_true] at hB
        have hA1 : ordT l lo (vx l k).2.1 (rng (nx - 2)) = rng (ordT l lo (vx l k).2.1 (rng (nx - 2))).length := by
          have this : ordT l lo (vx l k).2.1 (rng (nx - 2)) = (rng m').take (ordT l lo (vx l k).2.1 (rng (nx - 2))).length := by
            rw [← hA, e2]; simp
          have hle : (ordT l lo (vx l k).2.1 (rng (nx - 2))).length ≤ m' := by
            have := congrArg List.length hA; rw [e2, rng_len] at this; simp at this; omega
          rw [rng_take, Nat.min_eq_left hle] at this
          exact this
        generalize (ordT l lo (vx l k).2.1 (rng (nx - 2))).length = q at hA1
        have w1 := a2 q hA1
        rw [hA1] at hA
        have w2 := (ih2 _ (q + 2) k6 (by omega)).2 m' (by simpa using hA)
        simp only [w1, w2, Option.bind_some]
        rw [if_pos (by omega)]
end Go.Proofs.Ytlealdhgajomhaa
