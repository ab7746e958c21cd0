/- The reference's builder: what it builds of a table. -/
import Derived.Test.YtlealdhgajomhaaBddB
namespace Go.Proofs.Ytlealdhgajomhaa
set_option linter.unusedVariables false
open Go.AI
set_option linter.unusedSimpArgs false

/-! ### the plain law -/
def bt (t : List Bool) (j : Nat) : Bool := t.getD j false
def allSame (t : List Bool) : Bool := decide (∀ j, j < t.length → bt t j = bt t 0)
def fndL (x : Vtx) : List Vtx → Nat
  | [] => 0
  | y :: l => if y = x then 0 else 1 + fndL x l
def fnd (x : Vtx) (l : List Vtx) : Nat := 2 + fndL x (l.drop 2)
def bld : Nat → List Bool → List Vtx → Int × List Vtx
  | 0, t, l => (if bt t 0 = true then 1 else 0, l)
  | k + 1, t, l => if allSame t = true then (if bt t 0 = true then 1 else 0, l) else
    let a := bld k (t.take (2 ^ k)) l
    let b := bld k (t.drop (2 ^ k)) a.2
    if a.1 = b.1 then (a.1, b.2) else
    let x : Vtx := (9 - (k : Int), a.1, b.1)
    ((fnd x b.2 : Int), if fnd x b.2 < b.2.length then b.2 else b.2 ++ [x])
theorem fndL_le (x : Vtx) (l : List Vtx) : fndL x l ≤ l.length := by
  induction l with
  | nil => simp [fndL]
  | cons y l ih => simp only [fndL, List.length_cons]; split <;> omega
theorem fndL_hit (x : Vtx) : ∀ (l : List Vtx) (j : Nat), (∀ q, q < j → vx l q ≠ x) → vx l j = x → j < l.length → fndL x l = j := by
  intro l
  induction l with
  | nil => intro j _ _ h; simp at h
  | cons y l ih =>
    intro j h1 h2 h3
    cases j with
    | zero => have : y = x := h2; simp [fndL, this]
    | succ j =>
      have h0 : y ≠ x := h1 0 (by omega)
      have := ih j (fun q hq => h1 (q + 1) (by omega)) h2 (by simpa using h3)
      simp only [fndL, if_neg h0, this]; omega
theorem fndL_miss (x : Vtx) : ∀ (l : List Vtx), (∀ q, q < l.length → vx l q ≠ x) → fndL x l = l.length := by
  intro l
  induction l with
  | nil => intro _; rfl
  | cons y l ih =>
    intro h1
    have h0 : y ≠ x := h1 0 (by simp)
    have := ih (fun q hq => h1 (q + 1) (by simpa using hq))
    simp only [fndL, if_neg h0, this, List.length_cons]; omega
theorem vx_drop (l : List Vtx) (q : Nat) : vx (l.drop 2) q = vx l (q + 2) := by simp [vx, List.getD_eq_getElem?_getD, Nat.add_comm]
theorem fnd_hit {x : Vtx} {l : List Vtx} {j : Nat} (h0 : 2 ≤ j) (h1 : ∀ q, 2 ≤ q → q < j → vx l q ≠ x) (h2 : vx l j = x) (h3 : j < l.length) : fnd x l = j := by
  have := fndL_hit x (l.drop 2) (j - 2) (fun q hq => by rw [vx_drop]; exact h1 _ (by omega) (by omega)) (by rw [vx_drop, show j - 2 + 2 = j by omega]; exact h2) (by simp; omega)
  unfold fnd; omega
theorem fnd_miss {x : Vtx} {l : List Vtx} (h0 : 2 ≤ l.length) (h1 : ∀ q, 2 ≤ q → q < l.length → vx l q ≠ x) : fnd x l = l.length := by
  have := fndL_miss x (l.drop 2) (fun q hq => by rw [vx_drop]; simp at hq; exact h1 _ (by omega) (by omega))
  rw [List.length_drop] at this
  unfold fnd; omega
theorem bld_len : ∀ (k : Nat) (t : List Bool) (l : List Vtx), l.length ≤ (bld k t l).2.length ∧ (bld k t l).2.length + 1 ≤ l.length + 2 ^ k := by
  intro k
  induction k with
  | zero => intro t l; simp [bld]
  | succ k ih =>
    intro t l
    have hp : 0 < 2 ^ k := Nat.two_pow_pos k
    have h1 := ih (t.take (2 ^ k)) l
    have h2 := ih (t.drop (2 ^ k)) (bld k (t.take (2 ^ k)) l).2
    simp only [bld, Nat.pow_succ]
    split
    · simp only; omega
    · split
      · simp only; omega
      · split <;> (try simp only [List.length_append, List.length_cons, List.length_nil]) <;> omega

/-! ### tables -/
structure TB (σ : St) (v : Value) (t : List Bool) : Prop where
  ex : ∃ id off c row m, v = .slice (some ⟨id, off, none⟩) t.length c ∧ id < σ.next ∧ σ.row id = some (row, m) ∧ m.z = 1 ∧ (row.drop off).take t.length = t.map Value.bool
theorem tb_at {row : List Value} {off : Nat} {t : List Bool} (h : (row.drop off).take t.length = t.map Value.bool) {i : Nat} (hi : i < t.length) : row[off + i]? = some (.bool (bt t i)) := by
  have h1 : ((row.drop off).take t.length)[i]? = some (.bool (bt t i)) := by
    rw [h]; simp [bt, hi]
  rw [List.getElem?_take, if_pos hi, List.getElem?_drop] at h1
  exact h1
end Go.Proofs.Ytlealdhgajomhaa
