/- Support, count and witness: plain. bound, the reference's Count; both Supports: walks. Both Supports: walks. -/
import Derived.Test.YtlealdhgajomhaaBddLw
import Derived.Test.YtlealdhgajomhaaBddRb
namespace Go.Proofs.Ytlealdhgajomhaa
open Go.AI
set_option linter.unusedVariables false
set_option linter.unusedSimpArgs false

/-! ### which variables occur -/
def Dt.occ : Dt → Nat → Prop
  | .leaf _, _ => False
  | .node v lo hi, i => v = i ∨ lo.occ i ∨ hi.occ i
def hasV (l : List Vtx) (i : Nat) : Prop := ∃ k, 2 ≤ k ∧ k < l.length ∧ (vx l k).1 = (i : Int)
theorem hasV_app {l r : List Vtx} {i : Nat} (h : hasV l i) : hasV (l ++ r) i := by
  obtain ⟨k, h1, h2, h3⟩ := h
  exact ⟨k, h1, by simp; omega, by rw [vx_app h2]; exact h3⟩
theorem hasV_put {x : Vtx} {l : List Vtx} (hl : 2 ≤ l.length) {i : Nat} : hasV (put x l) i ↔ hasV l i ∨ x.1 = (i : Int) := by
  unfold put
  split
  · rename_i h
    obtain ⟨h1, h2⟩ := fnd_spec h
    constructor
    · exact Or.inl
    · rintro (h3 | h3)
      · exact h3
      · exact ⟨fnd x l, h1, h, by rw [h2]; exact h3⟩
  · constructor
    · rintro ⟨k, h1, h2, h3⟩
      by_cases hk : k < l.length
      · rw [vx_app hk] at h3; exact Or.inl ⟨k, h1, hk, h3⟩
      · obtain rfl : k = l.length := by simp at h2; omega
        rw [vx_last] at h3; exact Or.inr h3
    · rintro (h3 | h3)
      · exact hasV_app h3
      · exact ⟨l.length, hl, by simp, by rw [vx_last]; exact h3⟩
theorem hasV_num : ∀ (t : Dt) (l : List Vtx) (n : Nat), Gd l → t.ok n → ∀ i, hasV (num t l).2 i ↔ hasV l i ∨ t.occ i := by
  intro t
  induction t with
  | leaf b => intro l n g _ i; simp [num, Dt.occ]
  | node v lo hi ih1 ih2 =>
    intro l n g ho i
    obtain ⟨g1, _, _⟩ := num_ok lo l (v + 1) g ho.2.2.2.1
    obtain ⟨g2, _, _⟩ := num_ok hi (num lo l).2 (v + 1) g1 ho.2.2.2.2
    rw [num_node]
    simp only
    rw [hasV_put g2.len, ih2 _ (v + 1) g1 ho.2.2.2.2, ih1 _ (v + 1) g ho.2.2.2.1]
    simp only [Dt.occ]
    constructor
    · rintro ((h | h) | h)
      · rcases h with h | h
        · exact Or.inl h
        · exact Or.inr (Or.inr (Or.inl h))
      · exact Or.inr (Or.inr (Or.inr h))
      · exact Or.inr (Or.inl (by omega))
    · rintro (h | h | h | h)
      · exact Or.inl (Or.inl (Or.inl h))
      · exact Or.inr (by omega)
      · exact Or.inl (Or.inl (Or.inr h))
      · exact Or.inl (Or.inr h)
theorem hasV_cd {T : Dt} (h : T.ok 0) (i : Nat) : hasV (cd T).1 i ↔ T.occ i := by
  have := hasV_num T c01 0 gd01 h i
  have h0 : ¬ hasV c01 i := by rintro ⟨k, h1, h2, _⟩; have : c01.length = 2 := rfl; omega
  simp only [cd]; rw [this]; simp [h0]
def dep (φ : As → Bool) (i : Nat) : Prop := ∃ f, φ (upd f i true) ≠ φ (upd f i false)
theorem upd_comm {f : As} {i j : Nat} {a b : Bool} (h : i ≠ j) : upd (upd f i a) j b = upd (upd f j b) i a := by
  funext k; unfold upd
  by_cases h1 : k = i
  · by_cases h2 : k = j
    · omega
    · simp [h1, h]
  · by_cases h2 : k = j
    · subst h2; simp [h1]
    · simp [h1, h2]
theorem upd_upd {f : As} {i : Nat} {a b : Bool} : upd (upd f i a) i b = upd f i b := by
  funext k; unfold upd; split <;> rfl
theorem upd_ne {f : As} {i j : Nat} {a : Bool} (h : j ≠ i) : upd f i a j = f j := by unfold upd; rw [if_neg h]
theorem occ_not : ∀ (T : Dt) (i : Nat), ¬ T.occ i → ∀ (f : As) (b : Bool), T.ev (upd f i b) = T.ev f := by
  intro T
  induction T with
  | leaf c => intro i _ f b; rfl
  | node v lo hi ih1 ih2 =>
    intro i h f b
    simp only [Dt.occ, not_or] at h
    simp only [Dt.ev, upd_ne h.1, ih1 i h.2.1, ih2 i h.2.2]
theorem occ_dep : ∀ (T : Dt) (n : Nat), T.ok n → ∀ i, T.occ i ↔ dep T.ev i := by
  intro T
  induction T with
  | leaf c => intro n _ i; simp [Dt.occ, dep, Dt.ev]
  | node v lo hi ih1 ih2 =>
    intro n ho i
    constructor
    · intro h
      by_cases hv : v = i
      · subst hv
        have hne : ∃ f, hi.ev f ≠ lo.ev f := by
          apply Classical.byContradiction
          intro hc
          exact ho.2.2.1 (Dt.uniq ho.2.2.2.1 ho.2.2.2.2 (fun f => Classical.byContradiction fun e => hc ⟨f, fun e' => e e'.symm⟩))
        obtain ⟨f, hf⟩ := hne
        refine ⟨f, ?_⟩
        simp only [Dt.ev, upd_self, if_true, Bool.false_eq_true, if_false]
        rw [Dt.ev_upd ho.2.2.2.2 (by omega), Dt.ev_upd ho.2.2.2.1 (by omega)]
        exact hf
      · rcases h with h | h | h
        · exact (hv h).elim
        · obtain ⟨f, hf⟩ := (ih1 (v + 1) ho.2.2.2.1 i).1 h
          refine ⟨upd f v false, ?_⟩
          rw [upd_comm hv, upd_comm hv]
          simp only [Dt.ev, upd_self, Bool.false_eq_true, if_false]
          rw [Dt.ev_upd (v := v) ho.2.2.2.1 (by omega), Dt.ev_upd (v := v) ho.2.2.2.1 (by omega)]
          exact hf
        · obtain ⟨f, hf⟩ := (ih2 (v + 1) ho.2.2.2.2 i).1 h
          refine ⟨upd f v true, ?_⟩
          rw [upd_comm hv, upd_comm hv]
          simp only [Dt.ev, upd_self, if_true]
          rw [Dt.ev_upd (v := v) ho.2.2.2.2 (by omega), Dt.ev_upd (v := v) ho.2.2.2.2 (by omega)]
          exact hf
    · rintro ⟨f, hf⟩
      apply Classical.byContradiction
      intro hc
      exact hf (by rw [occ_not _ i hc, occ_not _ i hc])
/-- the reference's test -/
theorem dep_ref {φ : As → Bool} (h : Ten φ) {i : Nat} (hi : i < 10) : dep φ i ↔ ∃ n, n < 1024 ∧ φ (bits n) ≠ φ (bits (n ^^^ 2 ^ i)) := by
  have hb : ∀ n, n < 1024 → ∀ j, j < 10 → bits (n ^^^ 2 ^ i) j = upd (bits n) i (!(bits n i)) j := by
    intro n hn j hj
    show bitF j (n ^^^ 2 ^ i) = if j = i then !(bitF i n) else bitF j n
    rw [bitF_eq, bitF_eq, bitF_eq, Nat.testBit_xor, Nat.testBit_two_pow]
    by_cases e : j = i
    · subst e; simp
    · have e' : ¬ i = j := fun h => e h.symm
      simp [e, e']
  constructor
  · rintro ⟨f, hf⟩
    refine ⟨code (upd f i true), code_lt _, ?_⟩
    rw [h, h.congr (f := bits (code (upd f i true) ^^^ 2 ^ i)) (g := upd f i false) ?_]
    · exact hf
    intro j hj
    rw [hb _ (code_lt _) j hj]
    have : bits (code (upd f i true)) i = true := by rw [bits_code _ hi, upd_self]
    rw [this]
    unfold upd
    by_cases e : j = i
    · simp [e]
    · simp only [e, if_false]; rw [bits_code _ hj]; simp [e]
  · rintro ⟨n, hn, hf⟩
    refine ⟨bits n, ?_⟩
    rw [h.congr (hb n hn)] at hf
    cases hx : bits n i with
    | true =>
      rw [hx] at hf
      rw [upd_id hx]
      exact hf
    | false =>
      rw [hx] at hf
      rw [upd_id hx]
      exact fun e => hf e.symm
/-! ### how many -/
def cn : Nat → (As → Bool) → Nat
  | 0, φ => if φ (fun _ => false) = true then 1 else 0
  | n + 1, φ => cn n φ + cn n (fun f => φ (upd f n true))
theorem cn_congr : ∀ (n : Nat) (φ ψ : As → Bool), (∀ f, (∀ j, n ≤ j → f j = false) → φ f = ψ f) → cn n φ = cn n ψ := by
  intro n
  induction n with
  | zero => intro φ ψ h; simp only [cn]; rw [h _ (fun _ _ => rfl)]
  | succ n ih =>
    intro φ ψ h
    simp only [cn]
    rw [ih φ ψ (fun f hf => h f (fun j hj => hf j (by omega))), ih (fun f => φ (upd f n true)) (fun f => ψ (upd f n true)) (fun f hf => h _ (fun j hj => by rw [upd_ne (by omega)]; exact hf j (by omega)))]
theorem cn_half : ∀ (n v : Nat) (φ : As → Bool), v < n → 2 * cn n φ = cn n (fun f => φ (upd f v false)) + cn n (fun f => φ (upd f v true)) := by
  intro n
  induction n with
  | zero => intro v φ h; omega
  | succ n ih =>
    intro v φ hv
    by_cases e : v = n
    · subst e
      simp only [cn, upd_upd]
      have : cn v φ = cn v (fun f => φ (upd f v false)) := cn_congr v _ _ (fun f hf => by rw [upd_id (hf v (Nat.le_refl _))])
      omega
    · have h1 := ih v φ (by omega)
      have h2 := ih v (fun f => φ (upd f n true)) (by omega)
      simp only [cn]
      have c1 : cn n (fun f => φ (upd (upd f v false) n true)) = cn n (fun f => φ (upd (upd f n true) v false)) := cn_congr n _ _ (fun f _ => by rw [upd_comm e])
      have c2 : cn n (fun f => φ (upd (upd f v true) n true)) = cn n (fun f => φ (upd (upd f n true) v true)) := cn_congr n _ _ (fun f _ => by rw [upd_comm e])
      omega
theorem cn_le : ∀ (n : Nat) (φ : As → Bool), cn n φ ≤ 2 ^ n := by
  intro n
  induction n with
  | zero => intro φ; simp only [cn]; split <;> simp
  | succ n ih =>
    intro φ
    have h1 := ih φ
    have h2 := ih (fun f => φ (upd f n true))
    simp only [cn]
    rw [Nat.pow_succ]; omega
/-- where a tree begins, below 'n' -/
def lvT (n : Nat) : Dt → Nat
  | .leaf _ => n
  | .node v _ _ => min v n
def cntT (n : Nat) : Dt → Nat
  | .leaf b => if b = true then 1 else 0
  | .node v lo hi => if n ≤ v then cntT n lo else cntT n lo * 2 ^ (lvT n lo - v - 1) + cntT n hi * 2 ^ (lvT n hi - v - 1)
theorem lvT_le (n : Nat) (T : Dt) : lvT n T ≤ n := by cases T <;> simp only [lvT] <;> omega
theorem lvT_ge {n m : Nat} {T : Dt} (h : T.ok m) (hm : m ≤ n) : m ≤ lvT n T := by
  cases T with
  | leaf b => exact hm
  | node v lo hi => simp only [lvT]; have := h.1; omega
theorem cn_const : ∀ (n : Nat) (b : Bool), cn n (fun _ => b) = if b = true then 2 ^ n else 0 := by
  intro n b
  induction n with
  | zero => simp [cn]
  | succ n ih => simp only [cn, ih]; cases b <;> simp [Nat.pow_succ]; omega
theorem cn_cntT (n : Nat) : ∀ (T : Dt) (m : Nat), T.ok m → cn n T.ev = cntT n T * 2 ^ lvT n T := by
  intro T
  induction T with
  | leaf b => intro m _; have := cn_const n b; simp only [cntT, lvT]; show cn n (fun _ => b) = _; rw [this]; cases b <;> simp
  | node v lo hi ih1 ih2 =>
    intro m ho
    have h1 := ih1 (v + 1) ho.2.2.2.1
    have h2 := ih2 (v + 1) ho.2.2.2.2
    by_cases hv : n ≤ v
    · have e : cn n (Dt.node v lo hi).ev = cn n lo.ev := cn_congr n _ _ (fun f hf => by simp only [Dt.ev, hf v hv, Bool.false_eq_true, if_false])
      have l1 : lvT n lo = n := by
        have := lvT_le n lo
        cases lo with
        | leaf b => rfl
        | node w a b => simp only [lvT]; have := ho.2.2.2.1.1; omega
      rw [e, h1, l1]
      simp only [cntT, lvT, hv, if_true]
      rw [Nat.min_eq_right hv]
    · have hh := cn_half n v (Dt.node v lo hi).ev (by omega)
      have e1 : cn n (fun f => (Dt.node v lo hi).ev (upd f v false)) = cn n lo.ev := cn_congr n _ _ (fun f _ => by simp only [Dt.ev, upd_self, Bool.false_eq_true, if_false]; exact Dt.ev_upd ho.2.2.2.1 (by omega))
      have e2 : cn n (fun f => (Dt.node v lo hi).ev (upd f v true)) = cn n hi.ev := cn_congr n _ _ (fun f _ => by simp only [Dt.ev, upd_self, if_true]; exact Dt.ev_upd ho.2.2.2.2 (by omega))
      rw [e1, e2, h1, h2] at hh
      have g1 := lvT_ge (n := n) ho.2.2.2.1 (by omega)
      have g2 := lvT_ge (n := n) ho.2.2.2.2 (by omega)
      have p1 : 2 ^ lvT n lo = 2 * 2 ^ v * 2 ^ (lvT n lo - v - 1) := by
        rw [show lvT n lo = 1 + v + (lvT n lo - v - 1) by omega, Nat.pow_add, Nat.pow_add, Nat.pow_one]
        congr 2; omega
      have p2 : 2 ^ lvT n hi = 2 * 2 ^ v * 2 ^ (lvT n hi - v - 1) := by
        rw [show lvT n hi = 1 + v + (lvT n hi - v - 1) by omega, Nat.pow_add, Nat.pow_add, Nat.pow_one]
        congr 2; omega
      have l0 : lvT n (.node v lo hi) = v := by simp only [lvT]; omega
      rw [l0]
      simp only [cntT, hv, if_false]
      rw [p1, p2] at hh
      have a1 : cntT n lo * (2 * 2 ^ v * 2 ^ (lvT n lo - v - 1)) = 2 * (cntT n lo * 2 ^ (lvT n lo - v - 1) * 2 ^ v) := by
        rw [Nat.mul_assoc 2, Nat.mul_left_comm, Nat.mul_assoc (cntT n lo), Nat.mul_comm (2 ^ v)]
      have a2 : cntT n hi * (2 * 2 ^ v * 2 ^ (lvT n hi - v - 1)) = 2 * (cntT n hi * 2 ^ (lvT n hi - v - 1) * 2 ^ v) := by
        rw [Nat.mul_assoc 2, Nat.mul_left_comm, Nat.mul_assoc (cntT n hi), Nat.mul_comm (2 ^ v)]
      rw [Nat.add_mul]
      omega
theorem cntT_le {n : Nat} {T : Dt} {m : Nat} (h : T.ok m) : cntT n T * 2 ^ lvT n T ≤ 2 ^ n := by rw [← cn_cntT n T m h]; exact cn_le n _
/-- how many of the first 'N' numbers -/
def cnB (φ : As → Bool) : Nat → Nat
  | 0 => 0
  | k + 1 => cnB φ k + (if φ (bits k) = true then 1 else 0)
theorem cnB_add (φ : As → Bool) (n : Nat) : ∀ q, q ≤ 2 ^ n → cnB φ (2 ^ n + q) = cnB φ (2 ^ n) + cnB (fun f => φ (upd f n true)) q := by
  intro q
  induction q with
  | zero => intro _; rfl
  | succ q ih =>
    intro hq
    have hb : bits (2 ^ n + q) = upd (bits q) n true := by
      funext j
      show bitF j (2 ^ n + q) = if j = n then true else bitF j q
      rw [bitF_eq, bitF_eq]
      by_cases e : j = n
      · subst e
        rw [if_pos rfl, Nat.testBit_two_pow_add_eq, Nat.testBit_lt_two_pow (by omega)]; rfl
      · rw [if_neg e]
        by_cases hl : j < n
        · rw [Nat.testBit_two_pow_add_gt hl]
        · have h1 : 2 ^ n + q < 2 ^ j := by
            have : 2 ^ (n + 1) ≤ 2 ^ j := Nat.pow_le_pow_right (by decide) (by omega)
            rw [Nat.pow_succ] at this; omega
          rw [Nat.testBit_lt_two_pow h1, Nat.testBit_lt_two_pow (by omega)]
    rw [← Nat.add_assoc]
    simp only [cnB]
    rw [ih (by omega), hb, Nat.add_assoc]
theorem cnB_cn : ∀ (n : Nat) (φ : As → Bool), cnB φ (2 ^ n) = cn n φ := by
  intro n
  induction n with
  | zero =>
    intro φ
    have : bits 0 = fun _ => false := by funext j; show bitF j 0 = false; rw [bitF_eq]; simp
    simp only [Nat.pow_zero, cnB, cn, this]; omega
  | succ n ih =>
    intro φ
    rw [Nat.pow_succ, Nat.mul_two, cnB_add φ n (2 ^ n) (Nat.le_refl _), ih, ih]; rfl
end Go.Proofs.Ytlealdhgajomhaa
namespace Go.Proofs.Ytlealdhgajomhaa
open Go.AI
set_option linter.unusedVariables false
set_option linter.unusedSimpArgs false

def amin2 (P : Program) (a b : Value) : Option Value := bif [a, b].all plain0 then stillP P ([b].foldlM Builtin.min2 a) else none
theorem k_min2 {P : Program} {ρ : Operand → Value} {o : Oper} {a b : Operand} {ts : Array TypeId} : acallPure P ρ o ⟨.builtin .min, #[a, b], ts⟩ = amin2 P (ρ a) (ρ b) := by
  unfold acallPure amin2; simp [Builtin.min_]
theorem min2_i {P : Program} {x y : Int} : amin2 P (.int .i64 x) (.int .i64 y) = some (.int .i64 (if y < x then y else x)) := rfl
def amax2 (P : Program) (a b : Value) : Option Value := bif [a, b].all plain0 then stillP P ([b].foldlM Builtin.max2 a) else none
theorem k_max2 {P : Program} {ρ : Operand → Value} {o : Oper} {a b : Operand} {ts : Array TypeId} : acallPure P ρ o ⟨.builtin .max, #[a, b], ts⟩ = amax2 P (ρ a) (ρ b) := by
  unfold acallPure amax2; simp [Builtin.max_]
theorem max2_i {P : Program} {x y : Int} : amax2 P (.int .i64 x) (.int .i64 y) = some (.int .i64 (if y > x then y else x)) := rfl
/-- a number of variables, from 0 to 10 -/
def bnd (n : Int) : Nat := if n < 0 then 0 else if 10 < n then 10 else n.toNat
theorem bnd_le (n : Int) : bnd n ≤ 10 := by unfold bnd; split <;> (try split) <;> omega
theorem bnd_eq (n : Int) : (if (10 : Int) < (if (0 : Int) > n then (0 : Int) else n) then (10 : Int) else (if (0 : Int) > n then (0 : Int) else n)) = ((bnd n : Nat) : Int) := by
  unfold bnd
  by_cases h : n < 0
  · rw [if_pos (show (0 : Int) > n from h), if_neg (by omega), if_pos h]; rfl
  · rw [if_neg (show ¬ (0 : Int) > n from h), if_neg h]
    split
    · rfl
    · omega
theorem bound_spec (n : Int) (σ : St) : wpc Try.prog 55 #[.int .i64 n] σ fun r σ' => r = .int .i64 (bnd n : Nat) ∧ EX σ σ' := by
  refine body_go Try.func55 rfl ?_
  have hr := Try.results55
  simp only [c_seq, RUNA, RUNB, Nat.reduceAdd, Nat.reduceMod, Nat.reduceDiv, Nat.reduceSub, Nat.reduceMul, Nat.reduceEqDiff, Nat.reduceBEq, Nat.reduceLeDiff, Int.reduceToNat, fillS, wantG, vBox, Value.cells, one, putAt, TYA, hr, k_max2, max2_i, k_min2, min2_i, bnd_eq]
  repeat first | assumption | exact EXn.refl _ _ | refine EXn.more ?_ _ | refine EXn.put ?_ (by omega) _ | refine EX.trans ?_ (by assumption)
theorem shl10 {k : Nat} (hk : k ≤ 10) : IntKind.i64.wrap (1 * 2 ^ (min k IntKind.i64.bits)) = ((2 ^ k : Nat) : Int) := by
  have h2 : 2 ^ k ≤ 2 ^ 10 := Nat.pow_le_pow_right (by decide) hk
  have h : ((2 ^ k : Nat) : Int) ≤ ((1024 : Nat) : Int) := Int.ofNat_le.2 h2
  have h0 : (0 : Int) ≤ ((2 ^ k : Nat) : Int) := Int.natCast_nonneg _
  rw [show min k IntKind.i64.bits = k from Nat.min_eq_left (show k ≤ 64 by omega), Int.one_mul, show (2 : Int) ^ k = ((2 ^ k : Nat) : Int) from (Int.natCast_pow 2 k).symm]
  generalize ((2 ^ k : Nat) : Int) = w at *
  exact wrap64 (by omega) (by omega)
theorem refEvalC {σ : St} {a b : Value} {φ : As → Bool} {bs : List Bool} (ha : IsD 0 σ.next σ a φ) (hb : SB σ b bs) : wpc Try.prog 20 #[a, b] σ fun r σ' => r = .bool (φ (bt bs)) ∧ EX σ σ' := by
  obtain ⟨T, hD, hT, hφ⟩ := ha
  obtain ⟨hg, hR⟩ := cd_gd hT
  rw [← hφ]
  exact refEval_spec (hD.dv (Nat.le_refl _)) hg hR hT hb
theorem ten_tab {φ : As → Bool} (h : Ten φ) (n : Nat) : φ (bt (tab 10 (bits n))) = φ (bits n) := h.congr (fun i hi => bt_tab hi)
theorem cnB_le (φ : As → Bool) : ∀ k, cnB φ k ≤ k := by
  intro k
  induction k with
  | zero => exact Nat.le_refl _
  | succ k ih => simp only [cnB]; split <;> omega
theorem refCount_spec {σ : St} {a : Value} {φ : As → Bool} (n : Int) (ha : IsD 0 σ.next σ a φ) (hF : Fr σ) : wpc Try.prog 43 #[a, .int .i64 n] σ fun r σ' => r = .int .i64 (cn (bnd n) φ : Nat) ∧ EX σ σ' := by
  have ten := ha.ten
  obtain ⟨o1, k1, c1, i1, rfl⟩ := ha.open
  refine body_go Try.func43 rfl ?_
  have hr := Try.results43
  have hb := bnd_le n
  obtain ⟨N, hN⟩ : ∃ N, N = bnd n := ⟨_, rfl⟩
  simp only [c_seq, RUNA, RUNB, Nat.reduceAdd, Nat.reduceMod, Nat.reduceDiv, Nat.reduceSub, Nat.reduceMul, Nat.reduceEqDiff, Nat.reduceBEq, Nat.reduceLeDiff, Int.reduceToNat, fillS, wantG, vBox, Value.cells, one, putAt, TYA, hr, k_max2, max2_i, k_min2, min2_i, bnd_eq]
  rw [← hN] at hb ⊢
  have h2 : 2 ^ N ≤ 2 ^ 10 := Nat.pow_le_pow_right (by decide) hb
  refine loop_go (fun m S τ => S.at 1 = .int .i64 (N : Nat) ∧ S.at 2 = .pointer (some ⟨σ.next, 0, none⟩) ∧ EX σ τ ∧ Fr τ ∧ σ.next < τ.next ∧ τ.row σ.next = some ([.slice o1 k1 c1, .int .i64 i1], boxMeta) ∧
    ∃ k : Nat, S.at 5 = .int .i64 (cnB φ k : Nat) ∧ S.at 6 = .int .i64 k ∧ k ≤ 2 ^ N ∧ m = 2 ^ N - k) (2 ^ N) ?_ ?_
  · simp only [c_seq, RUNA, RUNB, Nat.reduceAdd, Nat.reduceMod, Nat.reduceDiv, Nat.reduceSub, Nat.reduceMul, Nat.reduceEqDiff, Nat.reduceBEq, Nat.reduceLeDiff, Int.reduceToNat, fillS, wantG, vBox, Value.cells, one, putAt]
    refine ⟨?_, by repeat first | assumption | refine Fr.more ?_ _ | refine Fr.put ?_ _ _, by omega, 0, rfl, rfl, Nat.zero_le _, rfl⟩
    repeat first | assumption | exact EXn.refl _ _ | refine EXn.more ?_ _ | refine EXn.put ?_ (by omega) _ | refine EX.trans ?_ (by assumption)
  rintro _ S τ ⟨s1, s2, hE, hF', hx, r0, k, s5, s6, hk, rfl⟩
  have z4 : (0 : Int) ≤ ((N : Nat) : Int) := by omega
  have hsh := shl10 hb
  have nn := hE.next
  by_cases hlt : k < 2 ^ N
  · have hd : decide ((k : Int) < ((2 ^ N : Nat) : Int)) = true := by simp only [decide_eq_true_eq]; exact Int.ofNat_lt.2 hlt
    have hw : IntKind.i64.wrap ((k : Int) + 1) = ((k + 1 : Nat) : Int) := by rw [wrap64 (by omega) (by omega)]; rfl
    have hcl := cnB_le φ k
    have hw2 : IntKind.i64.wrap ((cnB φ k : Int) + 1) = ((cnB φ k + 1 : Nat) : Int) := by rw [wrap64 (by omega) (by omega)]; rfl
    simp only [c_seq, RUNA, RUNB, Nat.reduceAdd, Nat.reduceMod, Nat.reduceDiv, Nat.reduceSub, Nat.reduceMul, Nat.reduceEqDiff, Nat.reduceBEq, Nat.reduceLeDiff, Int.reduceToNat, fillS, wantG, vBox, Value.cells, one, putAt, TYA, s1, s2, s5, s6, n_shl z4, hsh, hd]
    refine d_go (ms := [0, 0, 2, 7]) (order := [0, 1, 2, 3]) (by kernel_rfl) (by kernel_rfl) (by kernel_rfl) ?_
    simp only [YRUNA, YRUNB, Nat.reduceShiftRight, bit, c_seq, RUNA, RUNB, Nat.reduceAdd, Nat.reduceMod, Nat.reduceDiv, Nat.reduceSub, Nat.reduceMul, Nat.reduceEqDiff, Nat.reduceBEq, Nat.reduceLeDiff, Int.reduceToNat, fillS, wantG, vBox, Value.cells, one, putAt, TYA, s1, s2, s5, s6, r0]
    refine wpc_mono (Bits_spec k (by omega) _) ?_
    rintro r σ1 ⟨hT1, hE1⟩
    have n1 := hE1.next
    simp only [next_more] at n1
    have e1 : EX τ σ1 := by repeat first | assumption | exact EXn.refl _ _ | refine EXn.more ?_ _ | refine EXn.put ?_ (by omega) _ | refine EX.trans ?_ (by assumption)
    have r1 := (e1.row σ.next hx).trans r0
    have sb := hT1.sb (Nat.le_refl _)
    obtain ⟨d1, rfl, -, -, -⟩ := hT1
    simp only [YRUNA, YRUNB, Nat.reduceShiftRight, bit, c_seq, RUNA, RUNB, Nat.reduceAdd, Nat.reduceMod, Nat.reduceDiv, Nat.reduceSub, Nat.reduceMul, Nat.reduceEqDiff, Nat.reduceBEq, Nat.reduceLeDiff, Int.reduceToNat, fillS, wantG, vBox, Value.cells, one, putAt, TYA, s1, s2, s5, s6, r1]
    have ex1 : EX σ σ1 := EX.trans hE e1
    refine wpc_mono (refEvalC (ha.mono ex1) sb) ?_
    rintro r σ2 ⟨rfl, hE2⟩
    have n2 := hE2.next
    have r2 := (hE2.row σ.next (by omega)).trans r1
    have e2 : EX σ σ2 := EX.trans ex1 hE2
    have f2 := e2.fr hF
    rw [ten_tab ten]
    cases hp : φ (bits k) with
    | true =>
      simp only [YRUNA, YRUNB, Nat.reduceShiftRight, bit, c_seq, RUNA, RUNB, Nat.reduceAdd, Nat.reduceMod, Nat.reduceDiv, Nat.reduceSub, Nat.reduceMul, Nat.reduceEqDiff, Nat.reduceBEq, Nat.reduceLeDiff, Int.reduceToNat, fillS, wantG, vBox, Value.cells, one, putAt, TYA, s1, s2, s5, s6, r2, hw, hw2]
      refine ⟨2 ^ N - (k + 1), by omega, ?_, by repeat first | assumption | refine Fr.more ?_ _ | refine Fr.put ?_ _ _, by omega, k + 1, ?_, rfl, by omega, rfl⟩
      · repeat first | assumption | exact EXn.refl _ _ | refine EXn.more ?_ _ | refine EXn.put ?_ (by omega) _ | refine EX.trans ?_ (by assumption)
      · simp only [cnB, hp, if_true]
    | false =>
      simp only [YRUNA, YRUNB, Nat.reduceShiftRight, bit, c_seq, RUNA, RUNB, Nat.reduceAdd, Nat.reduceMod, Nat.reduceDiv, Nat.reduceSub, Nat.reduceMul, Nat.reduceEqDiff, Nat.reduceBEq, Nat.reduceLeDiff, Int.reduceToNat, fillS, wantG, vBox, Value.cells, one, putAt, TYA, s1, s2, s5, s6, r2, hw, hw2]
      refine ⟨2 ^ N - (k + 1), by omega, ?_, by repeat first | assumption | refine Fr.more ?_ _ | refine Fr.put ?_ _ _, by omega, k + 1, ?_, rfl, by omega, rfl⟩
      · repeat first | assumption | exact EXn.refl _ _ | refine EXn.more ?_ _ | refine EXn.put ?_ (by omega) _ | refine EX.trans ?_ (by assumption)
      · simp only [cnB, hp, Bool.false_eq_true, if_false, Nat.add_zero]
  · have hd : decide ((k : Int) < ((2 ^ N : Nat) : Int)) = false := by simp only [decide_eq_false_iff_not]; intro h; exact hlt (Int.ofNat_lt.1 h)
    have hk1 : k = 2 ^ N := by omega
    simp only [c_seq, RUNA, RUNB, Nat.reduceAdd, Nat.reduceMod, Nat.reduceDiv, Nat.reduceSub, Nat.reduceMul, Nat.reduceEqDiff, Nat.reduceBEq, Nat.reduceLeDiff, Int.reduceToNat, fillS, wantG, vBox, Value.cells, one, putAt, TYA, s1, s2, s5, s6, n_shl z4, hsh, hd, hr]
    refine ⟨by rw [hk1, cnB_cn], ?_⟩
    repeat first | assumption | exact EXn.refl _ _ | refine EXn.more ?_ _ | refine EXn.put ?_ (by omega) _ | refine EX.trans ?_ (by assumption)
end Go.Proofs.Ytlealdhgajomhaa
namespace Go.Proofs.Ytlealdhgajomhaa
open Go.AI
set_option linter.unusedVariables false
set_option linter.unusedSimpArgs false

noncomputable def depB (φ : As → Bool) (i : Nat) : Bool := @decide (dep φ i) (Classical.propDecidable _)
theorem depB_t {φ : As → Bool} {i : Nat} (h : dep φ i) : depB φ i = true := by unfold depB; exact @decide_eq_true _ (Classical.propDecidable _) h
theorem depB_f {φ : As → Bool} {i : Nat} (h : ¬ dep φ i) : depB φ i = false := by unfold depB; exact @decide_eq_false _ (Classical.propDecidable _) h
def supL (p : Nat → Bool) (n : Nat) : List Int := ((List.range n).filter p).map fun (k : Nat) => (k : Int)
theorem supL_t {p : Nat → Bool} {n : Nat} (h : p n = true) : supL p (n + 1) = supL p n ++ [(n : Int)] := by simp [supL, List.range_succ, List.filter_append, h]
theorem supL_f {p : Nat → Bool} {n : Nat} (h : p n = false) : supL p (n + 1) = supL p n := by simp [supL, List.range_succ, List.filter_append, h]
theorem supL_len (p : Nat → Bool) (n : Nat) : (supL p n).length ≤ n := by
  unfold supL; rw [List.length_map]; exact Nat.le_trans (List.length_filter_le _ _) (by simp)
theorem OL.but {s s' : Nat} {σ τ : St} (h : EX σ τ) {τ' : St} (k : But s s' τ τ') (h1 : σ.next ≤ s) (h2 : σ.next ≤ s') : EX σ τ' := EXn.trans h (k.exn h1 h2)
/-- what the loop over the variables keeps -/
def spI (p : Nat → Bool) (n0 : Nat) (out : Nat) (S : Slots) (τ : St) (v : Nat) : Prop := ∃ s, n0 < s ∧ s ≤ τ.next ∧ OL τ (S.at out) (supL p v) s
theorem refSupport_spec {σ : St} {a : Value} {φ : As → Bool} (ha : IsD 0 σ.next σ a φ) (hF : Fr σ) : wpc Try.prog 39 #[a] σ fun r σ' => (∃ s, OL σ' r (supL (depB φ) 10) s) ∧ EX σ σ' := by
  have ten := ha.ten
  obtain ⟨o1, k1, c1, i1, rfl⟩ := ha.open
  refine body_go Try.func39 rfl ?_
  have hr := Try.results39
  simp only [c_seq, RUNA, RUNB, Nat.reduceAdd, Nat.reduceMod, Nat.reduceDiv, Nat.reduceSub, Nat.reduceMul, Nat.reduceEqDiff, Nat.reduceBEq, Nat.reduceLeDiff, Int.reduceToNat, fillS, wantG, vBox, Value.cells, one, putAt, TYA, hr]
  refine wpc_mono (Table_is (ha.un ?_) (by first | omega | (simp only [next_more, next_put] at *; omega))) ?_
  · repeat first | assumption | exact UN.refl _ _ _ | refine UN.more ?_ _ | refine UN.put ?_ (by omega) _ | refine UN.ex (by assumption) ?_ (by first | omega | (simp only [next_more, next_put]; omega)) | refine UN.exb (by assumption) ?_ (by first | omega | (simp only [next_more, next_put]; omega)) (by omega)
  rintro r σ1 ⟨⟨d1, rfl, t1, t1', t1''⟩, hE1⟩
  have n1 := hE1.next
  simp only [next_more, next_put] at n1 t1
  have e1 : EX σ σ1 := by repeat first | assumption | exact EXn.refl _ _ | refine EXn.more ?_ _ | refine EXn.put ?_ (by omega) _ | refine EX.trans ?_ (by assumption)
  have f1 := e1.fr hF
  simp only [c_seq, RUNA, RUNB, Nat.reduceAdd, Nat.reduceMod, Nat.reduceDiv, Nat.reduceSub, Nat.reduceMul, Nat.reduceEqDiff, Nat.reduceBEq, Nat.reduceLeDiff, Int.reduceToNat, fillS, wantG, vBox, Value.cells, one, putAt, TYA]
  refine loop_go (fun m S τ => S.at 3 = .slice (some ⟨d1, 0, none⟩) 1024 1024 ∧ EX σ τ ∧ Fr τ ∧ σ1.next ≤ τ.next ∧ τ.row d1 = some ((tab 1024 fun n => φ (bits n)).map Value.bool, rowMeta 1) ∧
    ∃ i : Nat, S.at 5 = .int .i64 i ∧ i ≤ 10 ∧ m = 10 - i ∧ spI (depB φ) d1 4 S τ i) 10 ?_ ?_
  · simp only [c_seq, RUNA, RUNB, Nat.reduceAdd, Nat.reduceMod, Nat.reduceDiv, Nat.reduceSub, Nat.reduceMul, Nat.reduceEqDiff, Nat.reduceBEq, Nat.reduceLeDiff, Int.reduceToNat, fillS, wantG, vBox, Value.cells, one, putAt]
    refine ⟨?_, by repeat first | assumption | refine Fr.more ?_ _ | refine Fr.put ?_ _ _, by omega, t1'', 0, rfl, by omega, by omega, d1 + 1, by omega, by first | omega | (simp only [next_more, next_put] at *; omega), Or.inl ⟨by simp only [c_seq, RUNA, RUNB, Nat.reduceAdd, Nat.reduceMod, Nat.reduceDiv, Nat.reduceSub, Nat.reduceMul, Nat.reduceEqDiff, Nat.reduceBEq, Nat.reduceLeDiff, Int.reduceToNat, fillS, wantG, vBox, Value.cells, one, putAt], rfl⟩⟩
    repeat first | assumption | exact EXn.refl _ _ | refine EXn.more ?_ _ | refine EXn.put ?_ (by omega) _ | refine EX.trans ?_ (by assumption)
  rintro _ S τ ⟨s3, hE, hF', hx, rd, i, s5, hi, rfl, s, hs, hsn, hO⟩
  have nn := hE.next
  by_cases hlt : i < 10
  · have hd : decide ((i : Int) < 10) = true := by simp; omega
    have hw : IntKind.i64.wrap ((i : Int) + 1) = ((i + 1 : Nat) : Int) := by rw [wrap64 (by omega) (by omega)]; rfl
    simp only [c_seq, RUNA, RUNB, Nat.reduceAdd, Nat.reduceMod, Nat.reduceDiv, Nat.reduceSub, Nat.reduceMul, Nat.reduceEqDiff, Nat.reduceBEq, Nat.reduceLeDiff, Int.reduceToNat, fillS, wantG, vBox, Value.cells, one, putAt, TYA, s3, s5, hd]
    obtain ⟨ov, hov⟩ : ∃ ov, S.at 4 = ov := ⟨_, rfl⟩
    rw [hov] at hO
    refine loop_go (fun m S τ' => S.at 3 = .slice (some ⟨d1, 0, none⟩) 1024 1024 ∧ S.at 4 = ov ∧ S.at 5 = .int .i64 i ∧ EX τ τ' ∧ 
      ∃ n : Nat, S.at 6 = .int .i64 n ∧ n ≤ 1024 ∧ m = 1024 - n ∧ ∀ j, j < n → φ (bits j) = φ (bits (j ^^^ 2 ^ i))) 1024 ?_ ?_
    · simp only [c_seq, RUNA, RUNB, Nat.reduceAdd, Nat.reduceMod, Nat.reduceDiv, Nat.reduceSub, Nat.reduceMul, Nat.reduceEqDiff, Nat.reduceBEq, Nat.reduceLeDiff, Int.reduceToNat, fillS, wantG, vBox, Value.cells, one, putAt, s3, s5, hov]
      refine ⟨?_, 0, rfl, by omega, rfl, fun j hj => by omega⟩
      repeat first | assumption | exact EXn.refl _ _ | refine EXn.more ?_ _ | refine EXn.put ?_ (by omega) _ | refine EX.trans ?_ (by assumption)
    clear s3 s5 hov
    rintro _ S τ' ⟨s3, s4, s5, hE', n, s6, hn, rfl, hall⟩
    have nn' := hE'.next
    have rd' := (hE'.row d1 (by omega)).trans rd
    have hF2 := hE'.fr hF'
    have exx : EX σ τ' := EX.trans hE hE'
    by_cases hnl : n < 1024
    · have hd' : decide ((n : Int) < ((1024 : Nat) : Int)) = true := by simp; omega
      have z4 : (0 : Int) ≤ (i : Int) := by omega
      have hp := two_pow10 hlt
      have hsh := shl_one hlt
      have hxl : n ^^^ 2 ^ i < 1024 := Nat.xor_lt_two_pow (n := 10) hnl hp
      have hxr : IntKind.i64.wrap ((BitVec.ofInt IntKind.i64.bits (n : Int) ^^^ BitVec.ofInt IntKind.i64.bits ((2 ^ i : Nat) : Int)).toNat : Int) = ((n ^^^ 2 ^ i : Nat) : Int) := by
        have e : (BitVec.ofInt 64 (n : Int) ^^^ BitVec.ofInt 64 ((2 ^ i : Nat) : Int)).toNat = n ^^^ 2 ^ i := by
          rw [BitVec.toNat_xor, BitVec.ofInt_natCast, BitVec.ofInt_natCast, BitVec.toNat_ofNat, BitVec.toNat_ofNat, Nat.mod_eq_of_lt (by omega), Nat.mod_eq_of_lt (by omega)]
        show IntKind.i64.wrap (((BitVec.ofInt 64 (n : Int) ^^^ BitVec.ofInt 64 ((2 ^ i : Nat) : Int)).toNat : Nat) : Int) = _
        rw [e]; exact wrap64 (by omega) (by omega)
      have y0 : (0 : Int) ≤ (n : Int) := by omega
      have y1 : (n : Int) < ((1024 : Nat) : Int) := by omega
      have w0 : (0 : Int) ≤ ((n ^^^ 2 ^ i : Nat) : Int) := Int.natCast_nonneg _
      have w1 : ((n ^^^ 2 ^ i : Nat) : Int) < ((1024 : Nat) : Int) := Int.ofNat_lt.2 hxl
      have hv1 := tabv (f := fun n => φ (bits n)) hnl
      have hv2 := tabv (f := fun n => φ (bits n)) hxl
      have hw' : IntKind.i64.wrap ((n : Int) + 1) = ((n + 1 : Nat) : Int) := by rw [wrap64 (by omega) (by omega)]; rfl
      simp only [c_seq, RUNA, RUNB, Nat.reduceAdd, Nat.reduceMod, Nat.reduceDiv, Nat.reduceSub, Nat.reduceMul, Nat.reduceEqDiff, Nat.reduceBEq, Nat.reduceLeDiff, Int.reduceToNat, fillS, wantG, vBox, Value.cells, one, putAt, TYA, s3, s4, s5, s6, hd']
      refine d_go (ms := [0, 0, 3, 7, 0, 0, 0, 64, 224, 496, 1008, 2047]) (order := [0, 1, 2, 3, 4, 5, 6, 7, 8, 9, 10, 11]) (by kernel_rfl) (by kernel_rfl) (by kernel_rfl) ?_
      simp only [YRUNA, YRUNB, Nat.reduceShiftRight, bit, c_seq, RUNA, RUNB, Nat.reduceAdd, Nat.reduceMod, Nat.reduceDiv, Nat.reduceSub, Nat.reduceMul, Nat.reduceEqDiff, Nat.reduceBEq, Nat.reduceLeDiff, Int.reduceToNat, fillS, wantG, vBox, Value.cells, one, putAt, TYA, s3, s4, s5, s6, n_shl z4, hsh, n_xor, hxr, ia43 y0 y1, ia43 w0 w1, rd', hv1, hv2, n_neb Try.underlying4]
      by_cases he : φ (bits n) = φ (bits (n ^^^ 2 ^ i))
      · have hb : (!(φ (bits n) == φ (bits (n ^^^ 2 ^ i)))) = false := by rw [he]; simp
        simp only [c_seq, RUNA, RUNB, Nat.reduceAdd, Nat.reduceMod, Nat.reduceDiv, Nat.reduceSub, Nat.reduceMul, Nat.reduceEqDiff, Nat.reduceBEq, Nat.reduceLeDiff, Int.reduceToNat, fillS, wantG, vBox, Value.cells, one, putAt, TYA, hb, s3, s4, s5, s6, hw']
        refine ⟨1024 - (n + 1), by omega, ?_, n + 1, rfl, by omega, rfl, fun j hj => ?_⟩
        · repeat first | assumption | exact EXn.refl _ _ | refine EXn.more ?_ _ | refine EXn.put ?_ (by omega) _ | refine EX.trans ?_ (by assumption)
        · by_cases hjn : j = n
          · rw [hjn]; exact he
          · exact hall j (by omega)
      · have hb : (!(φ (bits n) == φ (bits (n ^^^ 2 ^ i)))) = true := by simp [he]
        have hdep : dep φ i := (dep_ref ten hlt).2 ⟨n, hnl, he⟩
        simp only [c_seq, RUNA, RUNB, Nat.reduceAdd, Nat.reduceMod, Nat.reduceDiv, Nat.reduceSub, Nat.reduceMul, Nat.reduceEqDiff, Nat.reduceBEq, Nat.reduceLeDiff, Int.reduceToNat, fillS, wantG, vBox, Value.cells, one, putAt, TYA, hb, s3, s4, s5, s6, bs58_1]
        have hF3 : Fr (((τ'.more 4).more 12).more 5) := by repeat first | assumption | refine Fr.more ?_ _ | refine Fr.put ?_ _ _
        refine OL.app (s := s) (id := τ'.next + 18) (id' := τ'.next + 19) (dn := supL (depB φ) i) (x := (i : Int)) (m := rowMeta 1) ?_ (by simp only [c_seq, RUNA, RUNB, Nat.reduceAdd, Nat.reduceMod, Nat.reduceDiv, Nat.reduceSub, Nat.reduceMul, Nat.reduceEqDiff, Nat.reduceBEq, Nat.reduceLeDiff, Int.reduceToNat, fillS, wantG, vBox, Value.cells, one, putAt]) ?_ (by first | omega | (simp only [next_more, next_put] at *; omega)) ?_ (by have := supL_len (depB φ) i; omega) ?_
        · exact hO.mono (by repeat first | assumption | exact EXn.refl _ _ | refine EXn.more ?_ _ | refine EXn.put ?_ (by omega) _ | refine EX.trans ?_ (by assumption))
        · rw [ver_put]; exact hF2 _ (by omega)
        · omega
        intro r σ3 hO3 hB
        have bn := hB.next
        simp only [next_put, next_more] at bn
        have ex3 : EX σ σ3 := OL.but (by repeat first | assumption | exact EXn.refl _ _ | refine EXn.more ?_ _ | refine EXn.put ?_ (by omega) _ | refine EX.trans ?_ (by assumption)) hB (by omega) (by omega)
        have rd3 : σ3.row d1 = some ((tab 1024 fun n => φ (bits n)).map Value.bool, rowMeta 1) := by rw [hB.row d1 (by omega) (by omega), row_put_ne (by omega)]; exact rd'
        have hF4 := ex3.fr hF
        simp only [c_seq, RUNA, RUNB, Nat.reduceAdd, Nat.reduceMod, Nat.reduceDiv, Nat.reduceSub, Nat.reduceMul, Nat.reduceEqDiff, Nat.reduceBEq, Nat.reduceLeDiff, Int.reduceToNat, fillS, wantG, vBox, Value.cells, one, putAt, TYA, s3, s4, s5, s6, hw]
        refine ⟨10 - (i + 1), by omega, ?_, by repeat first | assumption | refine Fr.more ?_ _ | refine Fr.put ?_ _ _, by omega, rd3, i + 1, rfl, by omega, rfl, τ'.next + 19, by omega, by first | omega | (simp only [next_more, next_put] at *; omega), ?_⟩
        · repeat first | assumption | exact EXn.refl _ _ | refine EXn.more ?_ _ | refine EXn.put ?_ (by omega) _ | refine EX.trans ?_ (by assumption)
        · rw [supL_t (depB_t hdep)]
          simp only [c_seq, RUNA, RUNB, Nat.reduceAdd, Nat.reduceMod, Nat.reduceDiv, Nat.reduceSub, Nat.reduceMul, Nat.reduceEqDiff, Nat.reduceBEq, Nat.reduceLeDiff, Int.reduceToNat, fillS, wantG, vBox, Value.cells, one, putAt]
          exact hO3.mono (by repeat first | assumption | exact EXn.refl _ _ | refine EXn.more ?_ _ | refine EXn.put ?_ (by omega) _ | refine EX.trans ?_ (by assumption))
    · have hd' : decide ((n : Int) < ((1024 : Nat) : Int)) = false := by simp; omega
      have hnd : ¬ dep φ i := fun h => by
        obtain ⟨q, hq1, hq2⟩ := (dep_ref ten hlt).1 h
        exact hq2 (hall q (by omega))
      simp only [c_seq, RUNA, RUNB, Nat.reduceAdd, Nat.reduceMod, Nat.reduceDiv, Nat.reduceSub, Nat.reduceMul, Nat.reduceEqDiff, Nat.reduceBEq, Nat.reduceLeDiff, Int.reduceToNat, fillS, wantG, vBox, Value.cells, one, putAt, TYA, s3, s4, s5, s6, hd', hw]
      refine ⟨10 - (i + 1), by omega, ?_, by repeat first | assumption | refine Fr.more ?_ _ | refine Fr.put ?_ _ _, by omega, rd', i + 1, rfl, by omega, rfl, s, hs, by first | omega | (simp only [next_more, next_put] at *; omega), ?_⟩
      · repeat first | assumption | exact EXn.refl _ _ | refine EXn.more ?_ _ | refine EXn.put ?_ (by omega) _ | refine EX.trans ?_ (by assumption)
      · rw [supL_f (depB_f hnd)]
        simp only [c_seq, RUNA, RUNB, Nat.reduceAdd, Nat.reduceMod, Nat.reduceDiv, Nat.reduceSub, Nat.reduceMul, Nat.reduceEqDiff, Nat.reduceBEq, Nat.reduceLeDiff, Int.reduceToNat, fillS, wantG, vBox, Value.cells, one, putAt, s4]
        exact hO.mono (by repeat first | assumption | exact EXn.refl _ _ | refine EXn.more ?_ _ | refine EXn.put ?_ (by omega) _ | refine EX.trans ?_ (by assumption))
  · have hd : decide ((i : Int) < 10) = false := by simp; omega
    obtain rfl : i = 10 := by omega
    simp only [c_seq, RUNA, RUNB, Nat.reduceAdd, Nat.reduceMod, Nat.reduceDiv, Nat.reduceSub, Nat.reduceMul, Nat.reduceEqDiff, Nat.reduceBEq, Nat.reduceLeDiff, Int.reduceToNat, fillS, wantG, vBox, Value.cells, one, putAt, TYA, s3, s5, hd, hr]
    refine ⟨⟨s, hO.mono ?_⟩, ?_⟩
    · repeat first | assumption | exact EXn.refl _ _ | refine EXn.more ?_ _ | refine EXn.put ?_ (by omega) _ | refine EX.trans ?_ (by assumption)
    · repeat first | assumption | exact EXn.refl _ _ | refine EXn.more ?_ _ | refine EXn.put ?_ (by omega) _ | refine EX.trans ?_ (by assumption)
theorem Support_spec {σ : St} {a : Value} {φ : As → Bool} (ha : IsD 0 σ.next σ a φ) (hF : Fr σ) : wpc Try.prog 38 #[a] σ fun r σ' => (∃ s, OL σ' r (supL (depB φ) 10) s) ∧ EX σ σ' := by
  obtain ⟨A, hA, oA, eA⟩ := ha
  obtain ⟨gA, rA⟩ := cd_gd oA
  have hdp : ∀ i, dep φ i ↔ hasV (cd A).1 i := fun i => by
    rw [hasV_cd oA, occ_dep A 0 oA]
    have : A.ev = φ := funext eA
    rw [this]
  have hcl := cd_len oA (by omega)
  obtain ⟨ia, fa, ca, rowa, ma, rfl, -, la, wa, ta⟩ := hA.row oA
  have hl2 := gA.len
  refine body_go Try.func38 rfl ?_
  have hr := Try.results38
  simp only [c_seq, RUNA, RUNB, Nat.reduceAdd, Nat.reduceMod, Nat.reduceDiv, Nat.reduceSub, Nat.reduceMul, Nat.reduceEqDiff, Nat.reduceBEq, Nat.reduceLeDiff, Int.reduceToNat, fillS, wantG, vBox, Value.cells, one, putAt, TYA, hr]
  refine wpc_mono (safe_spec (hA.un ?_) (by first | omega | (simp only [next_more, next_put] at *; omega)) oA (by repeat first | assumption | refine Fr.more ?_ _ | refine Fr.put ?_ _ _)) ?_
  · repeat first | assumption | exact UN.refl _ _ _ | refine UN.more ?_ _ | refine UN.put ?_ (by omega) _ | refine UN.ex (by assumption) ?_ (by first | omega | (simp only [next_more, next_put]; omega)) | refine UN.exb (by assumption) ?_ (by first | omega | (simp only [next_more, next_put]; omega)) (by omega)
  rintro r σ1 ⟨rfl, hE1⟩
  have n1 := hE1.next
  simp only [next_more, next_put] at n1
  have a1 : σ1.row σ.next = some ([.slice (some ⟨ia, fa, none⟩) (cd A).1.length ca, .int .i64 (cd A).2], boxMeta) := by rw [hE1.row _ (by first | omega | (simp only [next_more, next_put] at *; omega))]; simp only [c_seq, RUNA, RUNB, Nat.reduceAdd, Nat.reduceMod, Nat.reduceDiv, Nat.reduceSub, Nat.reduceMul, Nat.reduceEqDiff, Nat.reduceBEq, Nat.reduceLeDiff, Int.reduceToNat, fillS, wantG, vBox, Value.cells, one, putAt]
  have e1 : EX σ σ1 := by repeat first | assumption | exact EXn.refl _ _ | refine EXn.more ?_ _ | refine EXn.put ?_ (by omega) _ | refine EX.trans ?_ (by assumption)
  have f1 := e1.fr hF
  have v01 : (vx (cd A).1 0).1 = -1 ∧ (vx (cd A).1 1).1 = -1 := by
    have := cd_valid oA
    exact ⟨by rw [this.2.1], by rw [this.2.2.1]⟩
  generalize cd A = d at *
  obtain ⟨l, root⟩ := d
  simp only at *
  simp only [c_seq, RUNA, RUNB, Nat.reduceAdd, Nat.reduceMod, Nat.reduceDiv, Nat.reduceSub, Nat.reduceMul, Nat.reduceEqDiff, Nat.reduceBEq, Nat.reduceLeDiff, Int.reduceToNat, fillS, wantG, vBox, Value.cells, one, putAt, TYA, a1]
  refine loop_go (fun m S τ => S.at 1 = .pointer (some ⟨σ.next, 0, none⟩) ∧ EX σ τ ∧ Fr τ ∧ σ.next + 2 ≤ τ.next ∧ τ.row σ.next = some ([.slice (some ⟨ia, fa, none⟩) l.length ca, .int .i64 root], boxMeta) ∧
    ∃ i : Nat, S.at 9 = .int .i64 i ∧ i ≤ 10 ∧ m = 10 - i ∧ spI (depB φ) σ.next 3 S τ i) 10 ?_ ?_
  · simp only [c_seq, RUNA, RUNB, Nat.reduceAdd, Nat.reduceMod, Nat.reduceDiv, Nat.reduceSub, Nat.reduceMul, Nat.reduceEqDiff, Nat.reduceBEq, Nat.reduceLeDiff, Int.reduceToNat, fillS, wantG, vBox, Value.cells, one, putAt]
    refine ⟨?_, by repeat first | assumption | refine Fr.more ?_ _ | refine Fr.put ?_ _ _, by omega, 0, rfl, by omega, by omega, σ.next + 1, by omega, by first | omega | (simp only [next_more, next_put] at *; omega), Or.inl ⟨by simp only [c_seq, RUNA, RUNB, Nat.reduceAdd, Nat.reduceMod, Nat.reduceDiv, Nat.reduceSub, Nat.reduceMul, Nat.reduceEqDiff, Nat.reduceBEq, Nat.reduceLeDiff, Int.reduceToNat, fillS, wantG, vBox, Value.cells, one, putAt], rfl⟩⟩
    repeat first | assumption | exact EXn.refl _ _ | refine EXn.more ?_ _ | refine EXn.put ?_ (by omega) _ | refine EX.trans ?_ (by assumption)
  rintro _ S τ ⟨s1, hE, hF', hx, rd, i, s9, hi, rfl, s, hs, hsn, hO⟩
  have nn := hE.next
  by_cases hlt : i < 10
  · have hd : decide ((i : Int) < 10) = true := by simp; omega
    have hw : IntKind.i64.wrap ((i : Int) + 1) = ((i + 1 : Nat) : Int) := by rw [wrap64 (by omega) (by omega)]; rfl
    simp only [c_seq, RUNA, RUNB, Nat.reduceAdd, Nat.reduceMod, Nat.reduceDiv, Nat.reduceSub, Nat.reduceMul, Nat.reduceEqDiff, Nat.reduceBEq, Nat.reduceLeDiff, Int.reduceToNat, fillS, wantG, vBox, Value.cells, one, putAt, TYA, s1, s9, hd, rd]
    obtain ⟨ov, hov⟩ : ∃ ov, S.at 3 = ov := ⟨_, rfl⟩
    rw [hov] at hO
    refine loop_go (fun m S τ' => S.at 1 = .pointer (some ⟨σ.next, 0, none⟩) ∧ S.at 3 = ov ∧ S.at 4 = .int .i64 i ∧ S.at 9 = .int .i64 i ∧ S.at 13 = .slice (some ⟨ia, fa, none⟩) l.length ca ∧ S.at 14 = .int .i64 (l.length : Nat) ∧ EX τ τ' ∧ 
      ∃ n : Nat, S.at 15 = .int .i64 n ∧ n ≤ l.length ∧ m = l.length - n ∧ ∀ j, j < n → (vx l j).1 ≠ (i : Int)) l.length ?_ ?_
    · simp only [c_seq, RUNA, RUNB, Nat.reduceAdd, Nat.reduceMod, Nat.reduceDiv, Nat.reduceSub, Nat.reduceMul, Nat.reduceEqDiff, Nat.reduceBEq, Nat.reduceLeDiff, Int.reduceToNat, fillS, wantG, vBox, Value.cells, one, putAt, s1, s9, hov]
      refine ⟨?_, 0, rfl, by omega, rfl, fun j hj => by omega⟩
      repeat first | assumption | exact EXn.refl _ _ | refine EXn.more ?_ _ | refine EXn.put ?_ (by omega) _ | refine EX.trans ?_ (by assumption)
    clear s1 s9 hov
    rintro _ S τ' ⟨s1, s3, s4, s9, s13, s14, hE', n, s15, hn, rfl, hall⟩
    have nn' := hE'.next
    have rd' := (hE'.row σ.next (by omega)).trans rd
    have hF2 := hE'.fr hF'
    have exx : EX σ τ' := EX.trans hE hE'
    by_cases hnl : n < l.length
    · have hd' : decide ((n : Int) < (l.length : Int)) = true := by simp; omega
      have y0 : (0 : Int) ≤ (n : Int) := by omega
      have y1 : (n : Int) < (l.length : Int) := by omega
      have ra := (exx.row ia la).trans wa
      have ck := row_cut ta hnl
      have hw' : IntKind.i64.wrap ((n : Int) + 1) = ((n + 1 : Nat) : Int) := by rw [wrap64 (by omega) (by omega)]; rfl
      by_cases he : (vx l n).1 = (i : Int)
      · have hb : ((vx l n).1 == (i : Int)) = true := by simp [he]
        have hdep : dep φ i := by
          refine (hdp i).2 ⟨n, ?_, hnl, he⟩
          by_cases h2 : 2 ≤ n
          · exact h2
          · obtain rfl | rfl : n = 0 ∨ n = 1 := by omega
            · rw [v01.1] at he; omega
            · rw [v01.2] at he; omega
        simp only [c_seq, RUNA, RUNB, Nat.reduceAdd, Nat.reduceMod, Nat.reduceDiv, Nat.reduceSub, Nat.reduceMul, Nat.reduceEqDiff, Nat.reduceBEq, Nat.reduceLeDiff, Int.reduceToNat, fillS, wantG, vBox, Value.cells, one, putAt, TYA, s1, s3, s4, s9, s13, s14, s15, hd', ia23 y0 y1, ra, ck, hb, bs58_1]
        refine OL.app (s := s) (id := τ'.next + 11) (id' := τ'.next + 12) (dn := supL (depB φ) i) (x := (i : Int)) (m := rowMeta 1) ?_ (by simp only [c_seq, RUNA, RUNB, Nat.reduceAdd, Nat.reduceMod, Nat.reduceDiv, Nat.reduceSub, Nat.reduceMul, Nat.reduceEqDiff, Nat.reduceBEq, Nat.reduceLeDiff, Int.reduceToNat, fillS, wantG, vBox, Value.cells, one, putAt]) ?_ (by first | omega | (simp only [next_more, next_put] at *; omega)) ?_ (by have := supL_len (depB φ) i; omega) ?_
        · exact hO.mono (by repeat first | assumption | exact EXn.refl _ _ | refine EXn.more ?_ _ | refine EXn.put ?_ (by omega) _ | refine EX.trans ?_ (by assumption))
        · rw [ver_put]; exact hF2 _ (by omega)
        · omega
        intro r σ3 hO3 hB
        have bn := hB.next
        simp only [next_put, next_more] at bn
        have ex3 : EX σ σ3 := OL.but (by repeat first | assumption | exact EXn.refl _ _ | refine EXn.more ?_ _ | refine EXn.put ?_ (by omega) _ | refine EX.trans ?_ (by assumption)) hB (by omega) (by omega)
        have rd3 : σ3.row σ.next = some ([.slice (some ⟨ia, fa, none⟩) l.length ca, .int .i64 root], boxMeta) := by
          rw [hB.row σ.next (by omega) (by omega), row_put_ne (by omega), row_more, row_more, row_put_ne (by omega)]
          first | exact rd' | (rw [row_put_ne (by omega)]; exact rd')
        have hF4 := ex3.fr hF
        simp only [c_seq, RUNA, RUNB, Nat.reduceAdd, Nat.reduceMod, Nat.reduceDiv, Nat.reduceSub, Nat.reduceMul, Nat.reduceEqDiff, Nat.reduceBEq, Nat.reduceLeDiff, Int.reduceToNat, fillS, wantG, vBox, Value.cells, one, putAt, TYA, s1, s3, s4, s9, s13, s14, s15, hw]
        refine ⟨10 - (i + 1), by omega, ?_, by repeat first | assumption | refine Fr.more ?_ _ | refine Fr.put ?_ _ _, by omega, rd3, i + 1, rfl, by omega, rfl, τ'.next + 12, by omega, by first | omega | (simp only [next_more, next_put] at *; omega), ?_⟩
        · repeat first | assumption | exact EXn.refl _ _ | refine EXn.more ?_ _ | refine EXn.put ?_ (by omega) _ | refine EX.trans ?_ (by assumption)
        · rw [supL_t (depB_t hdep)]
          simp only [c_seq, RUNA, RUNB, Nat.reduceAdd, Nat.reduceMod, Nat.reduceDiv, Nat.reduceSub, Nat.reduceMul, Nat.reduceEqDiff, Nat.reduceBEq, Nat.reduceLeDiff, Int.reduceToNat, fillS, wantG, vBox, Value.cells, one, putAt]
          exact hO3.mono (by repeat first | assumption | exact EXn.refl _ _ | refine EXn.more ?_ _ | refine EXn.put ?_ (by omega) _ | refine EX.trans ?_ (by assumption))
      · have hb : ((vx l n).1 == (i : Int)) = false := by simp [he]
        simp only [c_seq, RUNA, RUNB, Nat.reduceAdd, Nat.reduceMod, Nat.reduceDiv, Nat.reduceSub, Nat.reduceMul, Nat.reduceEqDiff, Nat.reduceBEq, Nat.reduceLeDiff, Int.reduceToNat, fillS, wantG, vBox, Value.cells, one, putAt, TYA, s1, s3, s4, s9, s13, s14, s15, hd', ia23 y0 y1, ra, ck, hb, hw']
        refine ⟨l.length - (n + 1), by omega, ?_, n + 1, rfl, by omega, rfl, fun j hj => ?_⟩
        · repeat first | assumption | exact EXn.refl _ _ | refine EXn.more ?_ _ | refine EXn.put ?_ (by omega) _ | refine EX.trans ?_ (by assumption)
        · by_cases hjn : j = n
          · rw [hjn]; exact he
          · exact hall j (by omega)
    · have hd' : decide ((n : Int) < (l.length : Int)) = false := by simp; omega
      have hnd : ¬ dep φ i := fun h => by
        obtain ⟨q, hq1, hq2, hq3⟩ := (hdp i).1 h
        exact hall q (by omega) hq3
      simp only [c_seq, RUNA, RUNB, Nat.reduceAdd, Nat.reduceMod, Nat.reduceDiv, Nat.reduceSub, Nat.reduceMul, Nat.reduceEqDiff, Nat.reduceBEq, Nat.reduceLeDiff, Int.reduceToNat, fillS, wantG, vBox, Value.cells, one, putAt, TYA, s1, s3, s4, s9, s13, s14, s15, hd', hw]
      refine ⟨10 - (i + 1), by omega, ?_, by repeat first | assumption | refine Fr.more ?_ _ | refine Fr.put ?_ _ _, by omega, rd', i + 1, rfl, by omega, rfl, s, hs, by first | omega | (simp only [next_more, next_put] at *; omega), ?_⟩
      · repeat first | assumption | exact EXn.refl _ _ | refine EXn.more ?_ _ | refine EXn.put ?_ (by omega) _ | refine EX.trans ?_ (by assumption)
      · rw [supL_f (depB_f hnd)]
        simp only [c_seq, RUNA, RUNB, Nat.reduceAdd, Nat.reduceMod, Nat.reduceDiv, Nat.reduceSub, Nat.reduceMul, Nat.reduceEqDiff, Nat.reduceBEq, Nat.reduceLeDiff, Int.reduceToNat, fillS, wantG, vBox, Value.cells, one, putAt, s3]
        exact hO.mono (by repeat first | assumption | exact EXn.refl _ _ | refine EXn.more ?_ _ | refine EXn.put ?_ (by omega) _ | refine EX.trans ?_ (by assumption))
  · have hd : decide ((i : Int) < 10) = false := by simp; omega
    obtain rfl : i = 10 := by omega
    simp only [c_seq, RUNA, RUNB, Nat.reduceAdd, Nat.reduceMod, Nat.reduceDiv, Nat.reduceSub, Nat.reduceMul, Nat.reduceEqDiff, Nat.reduceBEq, Nat.reduceLeDiff, Int.reduceToNat, fillS, wantG, vBox, Value.cells, one, putAt, TYA, s1, s9, hd, hr]
    refine ⟨⟨s, hO.mono ?_⟩, ?_⟩
    · repeat first | assumption | exact EXn.refl _ _ | refine EXn.more ?_ _ | refine EXn.put ?_ (by omega) _ | refine EX.trans ?_ (by assumption)
    · repeat first | assumption | exact EXn.refl _ _ | refine EXn.more ?_ _ | refine EXn.put ?_ (by omega) _ | refine EX.trans ?_ (by assumption)
end Go.Proofs.Ytlealdhgajomhaa
