/- The diagrams of the constants and of the variables: plain. -/
import Derived.Test.YtlealdhgajomhaaBddF
namespace Go.Proofs.Ytlealdhgajomhaa
set_option linter.unusedVariables false
open Go.AI
set_option linter.unusedSimpArgs false

theorem allSame_eq (t : List Bool) : allSame t = t.all (fun x => x == bt t 0) := by
  rw [Bool.eq_iff_iff]
  simp only [allSame, decide_eq_true_eq, List.all_eq_true, beq_iff_eq]
  constructor
  · intro h x hx
    obtain ⟨j, hj, rfl⟩ := List.getElem_of_mem hx
    have := h j hj
    rw [← this]; simp [bt, hj]
  · intro h j hj
    have := h (t[j]) (List.getElem_mem hj)
    simpa [bt, hj] using this
def bldE : Nat → List Bool → List Vtx → Int × List Vtx
  | 0, t, l => (if bt t 0 = true then 1 else 0, l)
  | k + 1, t, l => if t.all (fun x => x == bt t 0) = true then (if bt t 0 = true then 1 else 0, l) else
    let a := bldE k (t.take (2 ^ k)) l
    let b := bldE k (t.drop (2 ^ k)) a.2
    if a.1 = b.1 then (a.1, b.2) else
    let x : Vtx := (9 - (k : Int), a.1, b.1)
    ((fnd x b.2 : Int), if fnd x b.2 < b.2.length then b.2 else b.2 ++ [x])
theorem bld_eq : ∀ (k : Nat) (t : List Bool) (l : List Vtx), bld k t l = bldE k t l := by
  intro k
  induction k with
  | zero => intro t l; rfl
  | succ k ih => intro t l; simp only [bld, bldE, allSame_eq, ih]

theorem rv_rv_all : (List.range 1024).all (fun n => rv (rv n 10) 10 == n) = true := by kernel_rfl
theorem rv_rv {n : Nat} (h : n < 1024) : rv (rv n 10) 10 = n := by
  have := List.all_eq_true.1 rv_rv_all n (List.mem_range.2 h)
  simpa using this
theorem bt_set {t : List Bool} {i p : Nat} {v : Bool} (hi : i < t.length) : bt (t.set i v) p = if p = i then v else bt t p := by
  unfold bt
  rw [List.getD_eq_getElem?_getD, List.getD_eq_getElem?_getD, List.getElem?_set]
  by_cases h : i = p
  · subst h; simp [hi]
  · have h' : ¬ p = i := fun e => h e.symm
    simp [h, h']
theorem bt_turn (t : List Bool) (p : Nat) (hp : p < 1024) : ∀ n, n ≤ 1024 → bt (turn t n) p = if rv p 10 < n then bt t (rv p 10) else false := by
  intro n
  induction n with
  | zero => intro _; simp only [turn, Nat.not_lt_zero, if_false, bt, List.getD_eq_getElem?_getD, List.getElem?_replicate]; split <;> rfl
  | succ n ih =>
    intro hn
    have hr := rv_lt n 10
    rw [turn, bt_set (by rw [turn_len]; omega), ih (by omega)]
    by_cases h : p = rv n 10
    · have e : rv p 10 = n := by rw [h, rv_rv (by omega)]
      rw [if_pos h, e, if_pos (by omega)]
    · have e : rv p 10 ≠ n := fun e => h (by rw [← e, rv_rv hp])
      rw [if_neg h]
      by_cases h2 : rv p 10 < n
      · rw [if_pos h2, if_pos (by omega)]
      · rw [if_neg h2, if_neg (by omega)]
theorem bt_fill (f : Nat → Bool) (p : Nat) : ∀ n, n ≤ 1024 → bt (fill f n) p = if p < n then f p else false := by
  intro n
  induction n with
  | zero => intro _; simp only [fill, Nat.not_lt_zero, if_false, bt, List.getD_eq_getElem?_getD, List.getElem?_replicate]; split <;> rfl
  | succ n ih =>
    intro hn
    rw [fill, bt_set (by rw [fill_len]; omega), ih (by omega)]
    by_cases h : p = n
    · rw [if_pos h, if_pos (by omega), h]
    · rw [if_neg h]
      by_cases h2 : p < n
      · rw [if_pos h2, if_pos (by omega)]
      · rw [if_neg h2, if_neg (by omega)]
theorem turn_eq (t : List Bool) : turn t 1024 = (List.range 1024).map fun p => bt t (rv p 10) := by
  refine List.ext_getElem (by rw [turn_len, List.length_map, List.length_range]) fun p h1 h2 => ?_
  rw [turn_len] at h1
  have := bt_turn t p h1 1024 (Nat.le_refl _)
  rw [if_pos (rv_lt p 10)] at this
  rw [List.getElem_map, List.getElem_range, ← this]
  simp [bt, turn_len, h1]
theorem turn_fill (f : Nat → Bool) : turn (fill f 1024) 1024 = (List.range 1024).map fun p => f (rv p 10) := by
  rw [turn_eq]
  refine List.map_congr_left fun p _ => ?_
  rw [bt_fill f _ 1024 (Nat.le_refl _), if_pos (rv_lt p 10)]
theorem dgm_fill (f : Nat → Bool) : dgm (fill f 1024) = ((bldE 10 ((List.range 1024).map fun p => f (rv p 10)) c01).2, (bldE 10 ((List.range 1024).map fun p => f (rv p 10)) c01).1) := by
  rw [dgm_eq, turn_fill, bld_eq]

theorem dgm_const (b : Bool) : dgm (fill (fun _ => b) 1024) = constD b := by
  rw [dgm_fill]
  cases b <;> kernel_rfl
theorem dv0 : ((bldE 10 ((List.range 1024).map fun p => bitF 0 (rv p 10)) c01).2, (bldE 10 ((List.range 1024).map fun p => bitF 0 (rv p 10)) c01).1) = varD 0 := by kernel_rfl
theorem dv1 : ((bldE 10 ((List.range 1024).map fun p => bitF 1 (rv p 10)) c01).2, (bldE 10 ((List.range 1024).map fun p => bitF 1 (rv p 10)) c01).1) = varD 1 := by kernel_rfl
theorem dv2 : ((bldE 10 ((List.range 1024).map fun p => bitF 2 (rv p 10)) c01).2, (bldE 10 ((List.range 1024).map fun p => bitF 2 (rv p 10)) c01).1) = varD 2 := by kernel_rfl
theorem dv3 : ((bldE 10 ((List.range 1024).map fun p => bitF 3 (rv p 10)) c01).2, (bldE 10 ((List.range 1024).map fun p => bitF 3 (rv p 10)) c01).1) = varD 3 := by kernel_rfl
theorem dv4 : ((bldE 10 ((List.range 1024).map fun p => bitF 4 (rv p 10)) c01).2, (bldE 10 ((List.range 1024).map fun p => bitF 4 (rv p 10)) c01).1) = varD 4 := by kernel_rfl
theorem dv5 : ((bldE 10 ((List.range 1024).map fun p => bitF 5 (rv p 10)) c01).2, (bldE 10 ((List.range 1024).map fun p => bitF 5 (rv p 10)) c01).1) = varD 5 := by kernel_rfl
theorem dv6 : ((bldE 10 ((List.range 1024).map fun p => bitF 6 (rv p 10)) c01).2, (bldE 10 ((List.range 1024).map fun p => bitF 6 (rv p 10)) c01).1) = varD 6 := by kernel_rfl
theorem dv7 : ((bldE 10 ((List.range 1024).map fun p => bitF 7 (rv p 10)) c01).2, (bldE 10 ((List.range 1024).map fun p => bitF 7 (rv p 10)) c01).1) = varD 7 := by kernel_rfl
theorem dv8 : ((bldE 10 ((List.range 1024).map fun p => bitF 8 (rv p 10)) c01).2, (bldE 10 ((List.range 1024).map fun p => bitF 8 (rv p 10)) c01).1) = varD 8 := by kernel_rfl
theorem dv9 : ((bldE 10 ((List.range 1024).map fun p => bitF 9 (rv p 10)) c01).2, (bldE 10 ((List.range 1024).map fun p => bitF 9 (rv p 10)) c01).1) = varD 9 := by kernel_rfl
theorem dgm_var (i : Nat) (h : i < 10) : dgm (fill (bitF i) 1024) = varD i := by
  rw [dgm_fill]
  match i, h with
  | 0, _ => exact dv0
  | 1, _ => exact dv1
  | 2, _ => exact dv2
  | 3, _ => exact dv3
  | 4, _ => exact dv4
  | 5, _ => exact dv5
  | 6, _ => exact dv6
  | 7, _ => exact dv7
  | 8, _ => exact dv8
  | 9, _ => exact dv9
end Go.Proofs.Ytlealdhgajomhaa
