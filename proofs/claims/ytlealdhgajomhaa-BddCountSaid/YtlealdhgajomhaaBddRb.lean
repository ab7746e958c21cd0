/- What the traversal of Restrict sees, and Restrict: walks. -/
import Derived.Test.YtlealdhgajomhaaBddAe
import Derived.Test.YtlealdhgajomhaaBddO
import Derived.Laws.StructEq
namespace Go.Proofs.Ytlealdhgajomhaa
open Go.AI
set_option linter.unusedVariables false
set_option linter.unusedSimpArgs false

/-- rows that stay -/
def Keep (σ : St) (H : List (Nat × (List Value × Mta))) : Prop := ∀ p ∈ H, p.1 < σ.next ∧ σ.row p.1 = some p.2
theorem Keep.exf {X : Nat → Prop} {σ τ : St} {H : List (Nat × (List Value × Mta))} (h : Keep σ H) (e : EXF X σ τ) (hx : ∀ p ∈ H, ¬ X p.1) : Keep τ H :=
  fun p hp => ⟨Nat.lt_of_lt_of_le (h p hp).1 e.next, (e.row p.1 (h p hp).1 (hx p hp)).trans (h p hp).2⟩
theorem Keep.mono {σ τ : St} {H : List (Nat × (List Value × Mta))} (h : Keep σ H) (e : EX σ τ) : Keep τ H :=
  fun p hp => ⟨Nat.lt_of_lt_of_le (h p hp).1 e.next, (e.row p.1 (h p hp).1).trans (h p hp).2⟩

/-- the ids that are written: a table's and the map 'done' -/
def tX4 (b mid dm s : Nat) : Nat → Prop := fun id => id = b ∨ id = mid ∨ id = dm ∨ id = s
section
variable {κ : Type} [DecidableEq κ] {enc : κ → Value}
structure IV (H : List (Nat × (List Value × Mta))) (b mid dm : Nat) (enc : κ → Value) (pre : List κ) (R : κ → Int → List Vtx → Prop) (s : Nat) (l : List Vtx) (g : κ → Option Value) (σ : St) : Prop where
  fr : Fr σ
  kp : Keep σ H
  tb : TBL b mid s σ l
  mp : MP enc σ dm g
  lt : dm < σ.next
  ne : dm ≠ b ∧ dm ≠ mid ∧ dm ≠ s
  ks : ∀ p ∈ H, p.1 ≠ b ∧ p.1 ≠ mid ∧ p.1 ≠ dm ∧ p.1 ≠ s
  inv : ∀ k v, g k = some v → ∃ n, v = .int .i64 n ∧ R k n l
  pr : ∀ k ∈ pre, ∃ v, g k = some v
variable {H : List (Nat × (List Value × Mta))} {b mid dm : Nat} {pre : List κ} {R : κ → Int → List Vtx → Prop} {s : Nat} {l : List Vtx} {g : κ → Option Value} {σ τ : St}
theorem IV.mono (h : IV H b mid dm enc pre R s l g σ) (e : EX σ τ) : IV H b mid dm enc pre R s l g τ :=
  ⟨e.fr h.fr, h.kp.mono e, h.tb.mono e, h.mp.of (e.get dm h.lt), Nat.lt_of_lt_of_le h.lt e.next, h.ne, h.ks, h.inv, h.pr⟩
/-- the table has grown -/
theorem IV.tab (hR : ∀ k n l q, R k n l → R k n (l ++ q)) (h : IV H b mid dm enc pre R s l g σ) {l' : List Vtx} {s' : Nat} (ht : TBL b mid s' τ l') (hq : ∃ q, l' = l ++ q) (hs : s' = s ∨ (σ.next ≤ s' ∧ s' < τ.next)) (e : EXF (tX b mid s) σ τ) (hF : Fr τ) : IV H b mid dm enc pre R s' l' g τ := by
  obtain ⟨q, rfl⟩ := hq
  have hd : ¬ tX b mid s dm := fun x => by
    rcases x with x | x | x
    · exact h.ne.1 x
    · exact h.ne.2.1 x
    · exact h.ne.2.2 x
  have hh : ∀ p ∈ H, ¬ tX b mid s p.1 := fun p hp x => by
    have := h.ks p hp
    rcases x with x | x | x
    · exact this.1 x
    · exact this.2.1 x
    · exact this.2.2.2 x
  refine ⟨hF, h.kp.exf e hh, ht, h.mp.of (e.get dm h.lt hd), Nat.lt_of_lt_of_le h.lt e.next, ⟨h.ne.1, h.ne.2.1, ?_⟩, fun p hp => ⟨(h.ks p hp).1, (h.ks p hp).2.1, (h.ks p hp).2.2.1, ?_⟩, fun k v hk => ?_, h.pr⟩
  · rcases hs with hs | hs
    · rw [hs]; exact h.ne.2.2
    · have := h.lt; omega
  · rcases hs with hs | hs
    · rw [hs]; exact (h.ks p hp).2.2.2
    · have := (h.kp p hp).1; omega
  · obtain ⟨n, h1, h2⟩ := h.inv k v hk
    exact ⟨n, h1, hR k n l q h2⟩
/-- the map has grown -/
theorem IV.upd (h : IV H b mid dm enc pre R s l g σ) {es' : List (Value × Value)} {k : κ} {n : Int} (hm : MP enc (σ.put dm (.map es')) dm (mset g k (.int .i64 n))) (hr : R k n l) : IV H b mid dm enc pre R s l (mset g k (.int .i64 n)) (σ.put dm (.map es')) := by
  obtain ⟨⟨sv, t1, t2⟩, t3, t4, t5, t6⟩ := h.tb
  refine ⟨h.fr, fun p hp => ⟨(h.kp p hp).1, (row_put_ne (h.ks p hp).2.2.1).trans (h.kp p hp).2⟩, ⟨⟨sv, (row_put_ne h.ne.1.symm).trans t1, t2.mono (Nat.le_refl _) (row_put_ne h.ne.2.2.symm)⟩, t3.of (by rw [St.get_put, if_neg h.ne.2.1.symm]), t4, t5, t6⟩, hm, h.lt, h.ne, h.ks, fun k' v hk => ?_, fun k' hk => ?_⟩
  · unfold mset at hk
    split at hk
    · rename_i e; cases hk; subst e; exact ⟨n, rfl, hr⟩
    · exact h.inv k' v hk
  · unfold mset
    split
    · exact ⟨_, rfl⟩
    · exact h.pr k' hk
theorem tX4.of {id : Nat} (h : tX b mid s id) : tX4 b mid dm s id := by
  rcases h with h | h | h
  · exact Or.inl h
  · exact Or.inr (Or.inl h)
  · exact Or.inr (Or.inr (Or.inr h))
/-- frames of calls one after the other -/
theorem EXF.two {s' : Nat} {υ : St} (h : EXF (tX4 b mid dm s) σ τ) (hs : s' = s ∨ σ.next ≤ s') (k : EXF (tX4 b mid dm s') τ υ) : EXF (tX4 b mid dm s) σ υ := by
  refine h.comp (fun id hi x => ?_) k
  rcases x with x | x | x | x
  · exact Or.inl x
  · exact Or.inr (Or.inl x)
  · exact Or.inr (Or.inr (Or.inl x))
  · rcases hs with hs | hs
    · exact Or.inr (Or.inr (Or.inr (x.trans hs)))
    · omega
theorem EXF.wide (h : EXF (tX b mid s) σ τ) : EXF (tX4 b mid dm s) σ τ := EXF.comp (EXF.refl _ σ) (fun _ _ x => tX4.of x) h
/-- a row that is no row of the table's stays -/
theorem EXF.keep (h : EXF (tX4 b mid dm s) σ τ) {id : Nat} (hi : id < σ.next) (hb : id ≠ b ∧ id ≠ mid ∧ id ≠ dm ∧ id ≠ s) : τ.row id = σ.row id :=
  h.row id hi (fun x => by
    rcases x with x | x | x | x
    · exact hb.1 x
    · exact hb.2.1 x
    · exact hb.2.2.1 x
    · exact hb.2.2.2 x)
/-- what a visit comes to -/
def IOut (H : List (Nat × (List Value × Mta))) (b mid dm : Nat) (enc : κ → Value) (pre : List κ) (R : κ → Int → List Vtx → Prop) (s : Nat) (l : List Vtx) (k : κ) (lv : Nat) (σ : St) (r : Value) (σ' : St) : Prop :=
  ∃ (n : Int) (l' : List Vtx) (s' : Nat) (g' : κ → Option Value), r = .int .i64 n ∧ IV H b mid dm enc pre R s' l' g' σ' ∧ (∃ q, l' = l ++ q) ∧ l'.length + 1 ≤ l.length + 2 ^ (10 - lv) ∧ R k n l' ∧ (s' = s ∨ (σ.next ≤ s' ∧ s' < σ'.next)) ∧ EXF (tX4 b mid dm s) σ σ'
theorem pow_pos' (lv : Nat) : 1 ≤ 2 ^ (10 - lv) := Nat.two_pow_pos _
end
/-- the tree of a vertex begins no later than where it is known to be ordered from -/
theorem Rep.lvl_le {l : List Vtx} {A : Dt} {i m : Nat} (h : Rep l A i) (ho : A.ok m) (hm : m ≤ 10) : m ≤ lvl l i := by
  cases A with
  | leaf c =>
    have : i < 2 := by simp only [Rep] at h; split at h <;> omega
    simp only [lvl, this, if_true]; exact hm
  | node v lo hi =>
    obtain ⟨k, h1, h2, h3, h4, _⟩ := h
    obtain rfl : i = k := by omega
    have h5 : ¬ i < 2 := by omega
    simp only [lvl, h5, if_false, h4, Int.toNat_natCast]
    exact ho.1
theorem Rep.ok_lvl {l : List Vtx} (g : Gd l) {A : Dt} {i : Nat} (h : Rep l A i) : A.ok (lvl l i) ∧ i < l.length := by
  have := Rep.lt g.len h
  obtain ⟨B, hB, ho⟩ := Rep.ex g i (by omega)
  have e := Rep.fn hB h
  subst e
  exact ⟨ho, by omega⟩
/-- a diagram's row -/
theorem DVi.row {lo hi : Nat} {σ : St} {v : Value} {T : Dt} (h : DVi lo hi σ v (cd T)) (ho : T.ok 0) : ∃ id off c row m, v = .agg #[.slice (some ⟨id, off, none⟩) (cd T).1.length c, .int .i64 (cd T).2] ∧ lo ≤ id ∧ id < hi ∧ σ.row id = some (row, m3 m) ∧ (row.drop off).take ((cd T).1.length * 3) = flat (cd T).1 := by
  obtain ⟨s, h1, h2 | h2⟩ := h
  · obtain ⟨id, off, c, row, m, rfl, h3⟩ := h2
    exact ⟨id, off, c, row, m, h1, h3⟩
  · have := (cd_gd ho).1.len
    rw [h2.2] at this; simp at this
theorem dv_row {τ : St} {id off c : Nat} {row : List Value} {m : Mta} {l : List Vtx} {rt : Int} (hi : id < τ.next) (hr : τ.row id = some (row, m3 m)) (h : (row.drop off).take (l.length * 3) = flat l) : DV τ (.agg #[.slice (some ⟨id, off, none⟩) l.length c, .int .i64 rt]) (l, rt) :=
  ⟨_, rfl, Or.inl ⟨id, off, c, row, m, rfl, hi, hr, h⟩⟩
theorem TBL.exf {X : Nat → Prop} {b mid s : Nat} {σ τ : St} {l : List Vtx} (h : TBL b mid s σ l) (e : EXF X σ τ) (h1 : ¬ X b) (h2 : ¬ X mid) (h3 : ¬ X s) : TBL b mid s τ l := by
  obtain ⟨⟨sv, g1, g2⟩, g3, g4, ⟨g5, g6, g7⟩, g8⟩ := h
  have := e.next
  exact ⟨⟨sv, (e.row b g5 h1).trans g1, g2.mono e.next (e.row s g7 h3)⟩, g3.of (e.get mid g6 h2), g4, ⟨by omega, by omega, by omega⟩, g8⟩
theorem upd_id {f : As} {v : Nat} {x : Bool} (h : f v = x) : upd f v x = f := by
  funext i; unfold upd; split
  · rename_i e; rw [e, h]
  · rfl
/-- a variable, which may be none, gets a value -/
def updI (f : As) (i : Int) (x : Bool) : As := fun j => if (j : Int) = i then x else f j
theorem updI_nat (f : As) (k : Nat) (x : Bool) : updI f (k : Int) x = upd f k x := by
  funext j; unfold updI upd
  by_cases h : j = k
  · rw [if_pos h, if_pos (by omega)]
  · rw [if_neg h, if_neg (by omega)]
theorem Ten.congr {φ : As → Bool} (h : Ten φ) {f g : As} (e : ∀ i, i < 10 → f i = g i) : φ f = φ g := by
  have h1 := h f
  have h2 := h g
  unfold code at h1 h2
  rw [idx_congr 10 (Nat.le_refl _) e] at h1
  rw [← h1, h2]
theorem updI_out {φ : As → Bool} (h : Ten φ) {i : Int} (hi : i < 0 ∨ 10 ≤ i) (x : Bool) (f : As) : φ (updI f i x) = φ f :=
  h.congr (fun j hj => by unfold updI; rw [if_neg (by omega)])
/-! ### bits -/
def clr (n k : Nat) : Nat := (BitVec.ofNat 64 n &&& ~~~ BitVec.ofNat 64 (2 ^ k)).toNat
theorem clr_le (n k : Nat) : clr n k ≤ n := by
  unfold clr
  rw [BitVec.toNat_and, BitVec.toNat_ofNat]
  exact Nat.le_trans Nat.and_le_left (Nat.mod_le _ _)
theorem clr_bit {n k j : Nat} (hn : n < 1024) (hk : k < 10) (hj : j < 10) : (clr n k).testBit j = (n.testBit j && !decide (j = k)) := by
  unfold clr
  have h1 : j < 64 := by omega
  rw [BitVec.testBit_toNat, BitVec.getLsbD_and, BitVec.getLsbD_not, BitVec.getLsbD_ofNat, BitVec.getLsbD_ofNat, Nat.testBit_two_pow]
  by_cases e : k = j
  · subst e; simp [h1]
  · have e' : ¬ j = k := fun h => e h.symm
    simp [h1, e, e']
theorem andNot_nat {n k : Nat} (hn : n < 1024) (hk : k < 10) : IntKind.i64.wrap ((BitVec.ofInt 64 (n : Int) &&& ~~~ BitVec.ofInt 64 ((2 ^ k : Nat) : Int)).toNat : Int) = ((clr n k : Nat) : Int) := by
  rw [BitVec.ofInt_natCast, BitVec.ofInt_natCast]
  have := clr_le n k
  exact wrap64 (by omega) (by unfold clr at this; omega)
/-- the index with a bit set or cleared -/
def mI (n k : Nat) (x : Bool) : Nat := if x = true then n ||| 2 ^ k else clr n k
theorem two_pow10 {k : Nat} (hk : k < 10) : 2 ^ k < 1024 := Nat.pow_lt_pow_right (by decide) hk (m := k) (n := 10)
theorem mI_lt {n k : Nat} {x : Bool} (hn : n < 1024) (hk : k < 10) : mI n k x < 1024 := by
  unfold mI
  split
  · exact Nat.or_lt_two_pow (n := 10) hn (two_pow10 hk)
  · have := clr_le n k; omega
theorem mI_bits {n k : Nat} {x : Bool} (hn : n < 1024) (hk : k < 10) {j : Nat} (hj : j < 10) : bits (mI n k x) j = upd (bits n) k x j := by
  show bitF j (mI n k x) = if j = k then x else bitF j n
  unfold mI
  rw [bitF_eq, bitF_eq]
  cases x with
  | true =>
    rw [if_pos rfl, Nat.testBit_or, Nat.testBit_two_pow]
    by_cases e : j = k
    · subst e; simp
    · have e' : ¬ k = j := fun h => e h.symm
      simp [e, e']
  | false =>
    rw [if_neg (by simp), clr_bit hn hk hj]
    by_cases e : j = k
    · subst e; simp
    · simp [e]
theorem shl_one {k : Nat} (hk : k < 10) : IntKind.i64.wrap (1 * 2 ^ (min k IntKind.i64.bits)) = ((2 ^ k : Nat) : Int) := by
  have h : ((2 ^ k : Nat) : Int) < ((1024 : Nat) : Int) := Int.ofNat_lt.2 (two_pow10 hk)
  have h0 : (0 : Int) ≤ ((2 ^ k : Nat) : Int) := Int.natCast_nonneg _
  rw [show min k IntKind.i64.bits = k from Nat.min_eq_left (show k ≤ 64 by omega), Int.one_mul, show (2 : Int) ^ k = ((2 ^ k : Nat) : Int) from (Int.natCast_pow 2 k).symm]
  generalize ((2 ^ k : Nat) : Int) = w at *
  exact wrap64 (by omega) (by omega)
theorem or_pow {n k : Nat} (hn : n < 1024) (hk : k < 10) : IntKind.i64.wrap ((BitVec.ofInt IntKind.i64.bits (n : Int) ||| BitVec.ofInt IntKind.i64.bits ((2 ^ k : Nat) : Int)).toNat : Int) = ((n ||| 2 ^ k : Nat) : Int) :=
  or_nat (by omega) (by have := two_pow10 hk; omega)
def rR (ld : List Vtx) (i : Int) (x : Bool) : Int → Int → List Vtx → Prop := fun k n l => ∀ A, Rep ld A k → ∃ T, Rep l T n ∧ (∀ m, m ≤ 10 → A.ok m → T.ok m) ∧ ∀ f, T.ev f = A.ev (updI f i x)
theorem rR.mono {ld : List Vtx} {i : Int} {x : Bool} (k n : Int) (l q : List Vtx) (h : rR ld i x k n l) : rR ld i x k n (l ++ q) := by
  intro A h1
  obtain ⟨T, t1, t2⟩ := h A h1
  exact ⟨T, t1.mono, t2⟩
theorem rR.const {ld : List Vtx} {i : Int} {x : Bool} (b : Bool) (l : List Vtx) : rR ld i x (if b = true then 1 else 0) (if b = true then 1 else 0) l := by
  intro A h1
  have : A = .leaf b := Rep.fn h1 rfl
  subst this
  exact ⟨.leaf b, rfl, fun _ _ _ => trivial, fun _ => rfl⟩
/-- the variable is the one that gets a value -/
theorem rR.hit {ld l : List Vtx} {i : Int} {x : Bool} {k v : Nat} {lo hi T : Dt} {n : Int} (hA : Rep ld (.node v lo hi) k) (hv : (v : Int) = i) (ho : (Dt.node v lo hi).ok 0) (hT : Rep l T n)
    (hok : ∀ m, m ≤ 10 → (if x = true then hi else lo).ok m → T.ok m) (he : ∀ f, T.ev f = (if x = true then hi else lo).ev (updI f i x)) : rR ld i x k n l := by
  intro A h1
  have := Rep.fn hA h1
  subst this
  have hv10 := ho.2.1
  refine ⟨T, hT, fun m hm o => ?_, fun f => ?_⟩
  · refine Dt.ok_mono (hok (v + 1) (by omega) ?_) (by have := o.1; omega)
    cases x with
    | true => exact o.2.2.2.2
    | false => exact o.2.2.2.1
  · rw [he]
    have : updI f i x v = x := by unfold updI; rw [if_pos hv]
    simp only [Dt.ev, this]
    cases x with
    | true => rfl
    | false => rfl
theorem rR.step {ld l : List Vtx} {i : Int} {x : Bool} {k v : Nat} {lo hi T0 T1 T : Dt} {n : Int} (hA : Rep ld (.node v lo hi) k) (hv : (v : Int) ≠ i)
    (e0 : ∀ f, T0.ev f = lo.ev (updI f i x)) (e1 : ∀ f, T1.ev f = hi.ev (updI f i x)) (hT : Rep l T n) (ho : T.ok v) (he : ∀ f, T.ev f = if f v = true then T1.ev f else T0.ev f) : rR ld i x k n l := by
  intro A h1
  have := Rep.fn hA h1
  subst this
  refine ⟨T, hT, fun m hm o => Dt.ok_mono ho o.1, fun f => ?_⟩
  have : updI f i x v = f v := by unfold updI; rw [if_neg hv]
  rw [he, e0, e1]
  simp only [Dt.ev, this]
/-- where the walk of a visit stands -/
def rvS (k : Nat) (bdn bd bi bx bv bt : Nat) (S : Slots) : Prop := S.at 0 = .int .i64 k ∧ S.at 1 = .pointer (some ⟨bdn, 0, none⟩) ∧ S.at 2 = .pointer (some ⟨bd, 0, none⟩) ∧ S.at 3 = .pointer (some ⟨bi, 0, none⟩) ∧ S.at 4 = .pointer (some ⟨bx, 0, none⟩) ∧ S.at 5 = .pointer (some ⟨bv, 0, none⟩) ∧ S.at 6 = .pointer (some ⟨bt, 0, none⟩)
/-- after the switch of a visit -/
def rvJ (H : List (Nat × (List Value × Mta))) (b mid dm : Nat) (ld : List Vtx) (i : Int) (x : Bool) (k bdn s : Nat) (l : List Vtx) (lv : Nat) (σ : St) (S : Slots) (τ : St) : Prop :=
  S.at 0 = .int .i64 k ∧ S.at 1 = .pointer (some ⟨bdn, 0, none⟩) ∧
  ∃ (n : Int) (l' : List Vtx) (s' : Nat) (g' : Int → Option Value), S.at 12 = .int .i64 n ∧ IV H b mid dm encI [0, 1] (rR ld i x) s' l' g' τ ∧ (∃ q, l' = l ++ q) ∧ l'.length + 1 ≤ l.length + 2 ^ (10 - lv) ∧ rR ld i x (k : Int) n l' ∧ (s' = s ∨ (σ.next ≤ s' ∧ s' < τ.next)) ∧ EXF (tX4 b mid dm s) σ τ
set_option maxHeartbeats 4000000 in
theorem rvisit (H : List (Nat × (List Value × Mta))) (bdn bd bi bx bv bt b mid dm : Nat) (ld : List Vtx) (rd : Int) (od : Option Addr) (kd : Nat) (i : Int) (x : Bool) (gd : Gd ld)
    (k1 : ∀ τ, Keep τ H → τ.row bdn = some ([.map (some dm)], boxMeta))
    (k2 : ∀ τ, Keep τ H → τ.row bd = some ([.slice od ld.length kd, .int .i64 rd], boxMeta) ∧ DV τ (.agg #[.slice od ld.length kd, .int .i64 rd]) (ld, rd))
    (k3 : ∀ τ, Keep τ H → τ.row bi = some ([.int .i64 i], boxMeta))
    (k4 : ∀ τ, Keep τ H → τ.row bx = some ([.bool x], boxMeta))
    (k5 : ∀ τ, Keep τ H → τ.row bv = some ([.func (.func 51) #[] #[.pointer (some ⟨bdn, 0, none⟩), .pointer (some ⟨bd, 0, none⟩), .pointer (some ⟨bi, 0, none⟩), .pointer (some ⟨bx, 0, none⟩), .pointer (some ⟨bv, 0, none⟩), .pointer (some ⟨bt, 0, none⟩)]], boxMeta))
    (k6 : ∀ τ, Keep τ H → τ.row bt = some ([.pointer (some ⟨b, 0, none⟩)], boxMeta)) :
    ∀ (A : Dt) (k lv : Nat) (σ : St) (s : Nat) (l : List Vtx) (g : Int → Option Value), Rep ld A k → A.ok lv → lv ≤ 10 → l.length + 2 ^ (10 - lv) ≤ 5000 → IV H b mid dm encI [0, 1] (rR ld i x) s l g σ →
      wpc Try.prog 51 #[.int .i64 k, .pointer (some ⟨bdn, 0, none⟩), .pointer (some ⟨bd, 0, none⟩), .pointer (some ⟨bi, 0, none⟩), .pointer (some ⟨bx, 0, none⟩), .pointer (some ⟨bv, 0, none⟩), .pointer (some ⟨bt, 0, none⟩)] σ (IOut H b mid dm encI [0, 1] (rR ld i x) s l (k : Int) lv σ) := by
  have hit : ∀ (k lv : Nat) (σ : St) (s : Nat) (l : List Vtx) (g : Int → Option Value) (v : Value), IV H b mid dm encI [0, 1] (rR ld i x) s l g σ → g (k : Int) = some v →
      wpc Try.prog 51 #[.int .i64 k, .pointer (some ⟨bdn, 0, none⟩), .pointer (some ⟨bd, 0, none⟩), .pointer (some ⟨bi, 0, none⟩), .pointer (some ⟨bx, 0, none⟩), .pointer (some ⟨bv, 0, none⟩), .pointer (some ⟨bt, 0, none⟩)] σ (IOut H b mid dm encI [0, 1] (rR ld i x) s l (k : Int) lv σ) := by
    intro k lv σ s l g v hV hg
    have pw := pow_pos' lv
    refine body_go Try.func51 rfl ?_
    have hr := Try.results51
    obtain ⟨n1, rfl, hR1⟩ := hV.inv _ _ hg
    have hlk : ∀ τ : St, τ.get dm = σ.get dm → alookup Try.prog τ 71 (.map (some dm)) (.int .i64 k) true = some (.tuple #[.int .i64 n1, .bool true]) := fun τ e => (lk_get e).trans (lkA hV.mp _ hg true)
    have hlk' := hlk ((σ.more 1).more 8) rfl
    simp only [c_seq, RUNA, RUNB, Nat.reduceAdd, Nat.reduceMod, Nat.reduceDiv, Nat.reduceSub, Nat.reduceMul, Nat.reduceEqDiff, Nat.reduceBEq, Nat.reduceLeDiff, Int.reduceToNat, fillS, wantG, vBox, Value.cells, one, putAt, TYA, hr, k1 σ hV.kp, hlk']
    refine ⟨n1, l, s, g, rfl, hV.mono ?_, ⟨[], by simp⟩, by omega, hR1, Or.inl rfl, EXF.of ?_⟩
    · repeat first | assumption | exact EXn.refl _ _ | refine EXn.more ?_ _ | refine EXn.put ?_ (by omega) _ | refine EX.trans ?_ (by assumption)
    · repeat first | assumption | exact EXn.refl _ _ | refine EXn.more ?_ _ | refine EXn.put ?_ (by omega) _ | refine EX.trans ?_ (by assumption)
  intro A
  induction A with
  | leaf c =>
    intro k lv σ s l g hR ho hlv hsz hV
    have : ∃ v, g (k : Int) = some v := by
      simp only [Rep] at hR
      rw [hR]
      cases c with
      | true => exact hV.pr 1 (by simp)
      | false => exact hV.pr 0 (by simp)
    obtain ⟨v, hg⟩ := this
    exact hit k lv σ s l g v hV hg
  | node vv lo hi ih1 ih2 =>
    intro k lv σ s l g hR ho hlv hsz hV
    cases hg : g (k : Int) with
    | some v => exact hit k lv σ s l g v hV hg
    | none =>
      have hRR := hR
      obtain ⟨kk, hkk, k2', k3', k4', k5', k6'⟩ := hR
      obtain rfl : k = kk := by omega
      have hv10 := ho.2.1
      refine body_go Try.func51 rfl ?_
      have hr := Try.results51
      have hlk : ∀ τ : St, τ.get dm = σ.get dm → alookup Try.prog τ 71 (.map (some dm)) (.int .i64 k) true = some (.tuple #[.int .i64 0, .bool false]) := fun τ e => (lk_get e).trans (lkA0 hV.mp _ hg true)
      have hlk' := hlk ((σ.more 1).more 8) rfl
      have hdv := (k2 σ hV.kp).2
      obtain ⟨o', c', e', hop⟩ := hdv.open
      simp only [Value.agg.injEq, Array.mk.injEq, List.cons.injEq, Value.slice.injEq, and_true, true_and] at e'
      obtain ⟨rfl, rfl⟩ := e'
      obtain ⟨did, doff, drow, dmm, rfl, d1, d2, d3⟩ := hop (by simp only; omega)
      simp only at d3
      have ck := row_cut d3 k3'
      have z0 : (0 : Int) ≤ (k : Int) := by omega
      have z1 : (k : Int) < (ld.length : Int) := by omega
      refine wpx_seq ?_
      simp only [RUNA, RUNB, Nat.reduceAdd, Nat.reduceMod, Nat.reduceDiv, Nat.reduceSub, Nat.reduceMul, Nat.reduceEqDiff, Nat.reduceBEq, Nat.reduceLeDiff, Int.reduceToNat, fillS, wantG, vBox, Value.cells, one, putAt, TYA]
      refine wpx_seq (wpx_seq ?_)
      simp only [RUNA, RUNB, Nat.reduceAdd, Nat.reduceMod, Nat.reduceDiv, Nat.reduceSub, Nat.reduceMul, Nat.reduceEqDiff, Nat.reduceBEq, Nat.reduceLeDiff, Int.reduceToNat, fillS, wantG, vBox, Value.cells, one, putAt, TYA, k1 σ hV.kp, hlk']
      refine wpx_seq ?_
      simp only [RUNA, RUNB, Nat.reduceAdd, Nat.reduceMod, Nat.reduceDiv, Nat.reduceSub, Nat.reduceMul, Nat.reduceEqDiff, Nat.reduceBEq, Nat.reduceLeDiff, Int.reduceToNat, fillS, wantG, vBox, Value.cells, one, putAt, TYA]
      refine wpx_seq ?_
      simp only [RUNA, RUNB, Nat.reduceAdd, Nat.reduceMod, Nat.reduceDiv, Nat.reduceSub, Nat.reduceMul, Nat.reduceEqDiff, Nat.reduceBEq, Nat.reduceLeDiff, Int.reduceToNat, fillS, wantG, vBox, Value.cells, one, putAt, TYA, (k2 σ hV.kp).1, ia23 z0 z1, d2, ck]
      refine wpx_seq ?_
      simp only [RUNA, RUNB, Nat.reduceAdd, Nat.reduceMod, Nat.reduceDiv, Nat.reduceSub, Nat.reduceMul, Nat.reduceEqDiff, Nat.reduceBEq, Nat.reduceLeDiff, Int.reduceToNat, fillS, wantG, vBox, Value.cells, one, putAt, TYA]
      have pw := pow_pos' lv
      have hp2 : 2 ^ (10 - vv) = 2 * 2 ^ (10 - (vv + 1)) := by rw [show 10 - vv = (10 - (vv + 1)) + 1 by omega, Nat.pow_succ]; omega
      have hp3 : 2 ^ (10 - vv) ≤ 2 ^ (10 - lv) := Nat.pow_le_pow_right (by decide) (by have := ho.1; omega)
      refine seq_cut (rvJ H b mid dm ld i x k bdn s l lv σ) ?_ ?_
      · refine gen_go (fun S τ => rvS k bdn bd bi bx bv bt S ∧ S.at 11 = .pointer (some ⟨σ.next + 15, 0, none⟩) ∧ EX σ τ ∧ σ.next + 15 < τ.next ∧ τ.row (σ.next + 15) = some ([.int .i64 vv, .int .i64 (vx ld k).2.1, .int .i64 (vx ld k).2.2], boxMeta)) ?_ ?_
        · simp only [c_seq, RUNA, RUNB, Nat.reduceAdd, Nat.reduceMod, Nat.reduceDiv, Nat.reduceSub, Nat.reduceMul, Nat.reduceEqDiff, Nat.reduceBEq, Nat.reduceLeDiff, Int.reduceToNat, fillS, wantG, vBox, Value.cells, one, putAt, rvS, k4']
          refine ⟨?_, by omega⟩
          repeat first | assumption | exact EXn.refl _ _ | refine EXn.more ?_ _ | refine EXn.put ?_ (by omega) _ | refine EX.trans ?_ (by assumption)
        rintro S τ ⟨⟨s0, s1, s2, s3, s4, s5, s6⟩, s11, hE, hx, rx⟩
        have hVt := hV.mono hE
        have hk := hVt.kp
        have hlt := hV.tb.lt
        have hltd := hV.lt
        have kbn : σ.next + 15 ≠ b ∧ σ.next + 15 ≠ mid ∧ σ.next + 15 ≠ dm ∧ σ.next + 15 ≠ s := ⟨by omega, by omega, by omega, by omega⟩
        obtain ⟨xl, hxl⟩ : ∃ q : Nat, (vx ld k).2.1 = q := ⟨_, (Int.toNat_of_nonneg (gd.lo k k2' k3').1).symm⟩
        obtain ⟨xh, hxh⟩ : ∃ q : Nat, (vx ld k).2.2 = q := ⟨_, (Int.toNat_of_nonneg (gd.hi k k2' k3').1).symm⟩
        rw [hxl, hxh] at rx
        rw [hxl] at k5'
        rw [hxh] at k6'
        by_cases hvi : (vv : Int) = i
        · have hd : ((vv : Int) == i) = true := by simp [hvi]
          cases x with
          | true =>
            simp only [c_seq, RUNA, RUNB, Nat.reduceAdd, Nat.reduceMod, Nat.reduceDiv, Nat.reduceSub, Nat.reduceMul, Nat.reduceEqDiff, Nat.reduceBEq, Nat.reduceLeDiff, Int.reduceToNat, fillS, wantG, vBox, Value.cells, one, putAt, TYA, s0, s1, s2, s3, s4, s5, s6, s11, rx, k3 τ hk, k4 τ hk, k5 τ hk, hd]
            refine wpc_mono (ih2 xh (vv + 1) _ s l g k6' ho.2.2.2.2 (by omega) (by omega) (hVt.mono ?_)) ?_
            · repeat first | assumption | exact EXn.refl _ _ | refine EXn.more ?_ _ | refine EXn.put ?_ (by omega) _ | refine EX.trans ?_ (by assumption)
            rintro r σ5 ⟨n5, l5, s5', g5, rfl, hV5, hq5, hl5, hR5, hs5, hX5⟩
            have n5' := hX5.next
            have nE := hE.next
            simp only [next_more] at n5' hs5
            simp only [c_seq, RUNA, RUNB, Nat.reduceAdd, Nat.reduceMod, Nat.reduceDiv, Nat.reduceSub, Nat.reduceMul, Nat.reduceEqDiff, Nat.reduceBEq, Nat.reduceLeDiff, Int.reduceToNat, fillS, wantG, vBox, Value.cells, one, putAt, TYA, s0, s1]
            obtain ⟨T, rT, oT, eT⟩ := hR5 hi k6'
            refine ⟨by simp only [c_seq, RUNA, RUNB, Nat.reduceAdd, Nat.reduceMod, Nat.reduceDiv, Nat.reduceSub, Nat.reduceMul, Nat.reduceEqDiff, Nat.reduceBEq, Nat.reduceLeDiff, Int.reduceToNat, fillS, wantG, vBox, Value.cells, one, putAt, s0], by simp only [c_seq, RUNA, RUNB, Nat.reduceAdd, Nat.reduceMod, Nat.reduceDiv, Nat.reduceSub, Nat.reduceMul, Nat.reduceEqDiff, Nat.reduceBEq, Nat.reduceLeDiff, Int.reduceToNat, fillS, wantG, vBox, Value.cells, one, putAt, s1], n5, l5, s5', g5, by simp only [c_seq, RUNA, RUNB, Nat.reduceAdd, Nat.reduceMod, Nat.reduceDiv, Nat.reduceSub, Nat.reduceMul, Nat.reduceEqDiff, Nat.reduceBEq, Nat.reduceLeDiff, Int.reduceToNat, fillS, wantG, vBox, Value.cells, one, putAt], hV5, hq5, by omega, rR.hit hRR hvi (Dt.ok_mono ho (Nat.zero_le _)) rT (by simpa using oT) (by simpa using eT), ?_, EXF.comp (EXF.of ?_) (fun _ _ y => y) hX5⟩
            · rcases hs5 with e | e
              · exact Or.inl e
              · exact Or.inr ⟨by omega, by omega⟩
            · repeat first | assumption | exact EXn.refl _ _ | refine EXn.more ?_ _ | refine EXn.put ?_ (by omega) _ | refine EX.trans ?_ (by assumption)
          | false =>
            simp only [c_seq, RUNA, RUNB, Nat.reduceAdd, Nat.reduceMod, Nat.reduceDiv, Nat.reduceSub, Nat.reduceMul, Nat.reduceEqDiff, Nat.reduceBEq, Nat.reduceLeDiff, Int.reduceToNat, fillS, wantG, vBox, Value.cells, one, putAt, TYA, s0, s1, s2, s3, s4, s5, s6, s11, rx, k3 τ hk, k4 τ hk, k5 τ hk, hd]
            refine wpc_mono (ih1 xl (vv + 1) _ s l g k5' ho.2.2.2.1 (by omega) (by omega) (hVt.mono ?_)) ?_
            · repeat first | assumption | exact EXn.refl _ _ | refine EXn.more ?_ _ | refine EXn.put ?_ (by omega) _ | refine EX.trans ?_ (by assumption)
            rintro r σ5 ⟨n5, l5, s5', g5, rfl, hV5, hq5, hl5, hR5, hs5, hX5⟩
            have n5' := hX5.next
            have nE := hE.next
            simp only [next_more] at n5' hs5
            simp only [c_seq, RUNA, RUNB, Nat.reduceAdd, Nat.reduceMod, Nat.reduceDiv, Nat.reduceSub, Nat.reduceMul, Nat.reduceEqDiff, Nat.reduceBEq, Nat.reduceLeDiff, Int.reduceToNat, fillS, wantG, vBox, Value.cells, one, putAt, TYA, s0, s1]
            obtain ⟨T, rT, oT, eT⟩ := hR5 lo k5'
            refine ⟨by simp only [c_seq, RUNA, RUNB, Nat.reduceAdd, Nat.reduceMod, Nat.reduceDiv, Nat.reduceSub, Nat.reduceMul, Nat.reduceEqDiff, Nat.reduceBEq, Nat.reduceLeDiff, Int.reduceToNat, fillS, wantG, vBox, Value.cells, one, putAt, s0], by simp only [c_seq, RUNA, RUNB, Nat.reduceAdd, Nat.reduceMod, Nat.reduceDiv, Nat.reduceSub, Nat.reduceMul, Nat.reduceEqDiff, Nat.reduceBEq, Nat.reduceLeDiff, Int.reduceToNat, fillS, wantG, vBox, Value.cells, one, putAt, s1], n5, l5, s5', g5, by simp only [c_seq, RUNA, RUNB, Nat.reduceAdd, Nat.reduceMod, Nat.reduceDiv, Nat.reduceSub, Nat.reduceMul, Nat.reduceEqDiff, Nat.reduceBEq, Nat.reduceLeDiff, Int.reduceToNat, fillS, wantG, vBox, Value.cells, one, putAt], hV5, hq5, by omega, rR.hit hRR hvi (Dt.ok_mono ho (Nat.zero_le _)) rT (by simpa using oT) (by simpa using eT), ?_, EXF.comp (EXF.of ?_) (fun _ _ y => y) hX5⟩
            · rcases hs5 with e | e
              · exact Or.inl e
              · exact Or.inr ⟨by omega, by omega⟩
            · repeat first | assumption | exact EXn.refl _ _ | refine EXn.more ?_ _ | refine EXn.put ?_ (by omega) _ | refine EX.trans ?_ (by assumption)
        · have hd : ((vv : Int) == i) = false := by simp [hvi]
          simp only [c_seq, RUNA, RUNB, Nat.reduceAdd, Nat.reduceMod, Nat.reduceDiv, Nat.reduceSub, Nat.reduceMul, Nat.reduceEqDiff, Nat.reduceBEq, Nat.reduceLeDiff, Int.reduceToNat, fillS, wantG, vBox, Value.cells, one, putAt, TYA, s0, s1, s2, s3, s4, s5, s6, s11, rx, k3 τ hk, k4 τ hk, k5 τ hk, hd]
          refine gen_go (fun S τ' => rvS k bdn bd bi bx bv bt S ∧ S.at 11 = .pointer (some ⟨σ.next + 15, 0, none⟩) ∧ EX τ τ') ?_ ?_
          · simp only [c_seq, RUNA, RUNB, Nat.reduceAdd, Nat.reduceMod, Nat.reduceDiv, Nat.reduceSub, Nat.reduceMul, Nat.reduceEqDiff, Nat.reduceBEq, Nat.reduceLeDiff, Int.reduceToNat, fillS, wantG, vBox, Value.cells, one, putAt, rvS, s0, s1, s2, s3, s4, s5, s6, s11]
            repeat first | assumption | exact EXn.refl _ _ | refine EXn.more ?_ _ | refine EXn.put ?_ (by omega) _ | refine EX.trans ?_ (by assumption)
          clear s0 s1 s2 s3 s4 s5 s6 s11
          rintro S τ4 ⟨⟨s0, s1, s2, s3, s4, s5, s6⟩, s11, hE4⟩
          have hV4 := hVt.mono hE4
          have hk4 := hV4.kp
          have rx4 := (hE4.row (σ.next + 15) hx).trans rx
          have n4 := hE4.next
          have ex4 : EX σ τ4 := EX.trans hE hE4
          refine d_go (ms := [0, 0, 2, 0, 0, 16, 56, 0, 0, 256, 1016, 2047, 4095]) (order := [0, 1, 2, 3, 4, 5, 7, 8, 9, 6, 10, 11, 12]) (by kernel_rfl) (by kernel_rfl) (by kernel_rfl) ?_
          simp only [YRUNA, YRUNB, Nat.reduceShiftRight, bit, c_seq, RUNA, RUNB, Nat.reduceAdd, Nat.reduceMod, Nat.reduceDiv, Nat.reduceSub, Nat.reduceMul, Nat.reduceEqDiff, Nat.reduceBEq, Nat.reduceLeDiff, Int.reduceToNat, fillS, wantG, vBox, Value.cells, one, putAt, TYA, s0, s1, s2, s3, s4, s5, s6, s11, rx4, k5 τ4 hk4, k6 τ4 hk4]
          refine wpc_mono (ih1 xl (vv + 1) _ s l g k5' ho.2.2.2.1 (by omega) (by omega) (hV4.mono ?_)) ?_
          · repeat first | assumption | exact EXn.refl _ _ | refine EXn.more ?_ _ | refine EXn.put ?_ (by omega) _ | refine EX.trans ?_ (by assumption)
          rintro r σ5 ⟨n5, l5, s5', g5, rfl, hV5, hq5, hl5, hR5, hs5, hX5⟩
          have hk5 := hV5.kp
          have n5' := hX5.next
          simp only [next_more] at n5' hs5
          have rx5 : σ5.row (σ.next + 15) = some ([.int .i64 vv, .int .i64 xl, .int .i64 xh], boxMeta) := (hX5.keep (by first | omega | (simp only [next_more, next_put] at *; omega)) kbn).trans rx4
          have hXa : EXF (tX4 b mid dm s) σ σ5 := EXF.comp (EXF.of (by repeat first | assumption | exact EXn.refl _ _ | refine EXn.more ?_ _ | refine EXn.put ?_ (by omega) _ | refine EX.trans ?_ (by assumption))) (fun _ _ y => y) hX5
          have kbn5 : σ.next + 15 ≠ b ∧ σ.next + 15 ≠ mid ∧ σ.next + 15 ≠ dm ∧ σ.next + 15 ≠ s5' := by
            refine ⟨kbn.1, kbn.2.1, kbn.2.2.1, ?_⟩
            rcases hs5 with e | e
            · rw [e]; exact kbn.2.2.2
            · omega
          have hs5z : s5' = s ∨ σ.next ≤ s5' := by
            rcases hs5 with e | e
            · exact Or.inl e
            · have := ex4.next; exact Or.inr (by omega)
          simp only [YRUNA, YRUNB, Nat.reduceShiftRight, bit, c_seq, RUNA, RUNB, Nat.reduceAdd, Nat.reduceMod, Nat.reduceDiv, Nat.reduceSub, Nat.reduceMul, Nat.reduceEqDiff, Nat.reduceBEq, Nat.reduceLeDiff, Int.reduceToNat, fillS, wantG, vBox, Value.cells, one, putAt, TYA, s0, s1, s2, s3, s4, s5, s6, s11, rx5, k5 σ5 hk5, k6 σ5 hk5]
          refine wpc_mono (ih2 xh (vv + 1) _ s5' l5 g5 k6' ho.2.2.2.2 (by omega) (by omega) hV5) ?_
          rintro r σ7 ⟨n7, l7, s7', g7, rfl, hV7, hq7, hl7, hR7, hs7, hX7⟩
          have hk7 := hV7.kp
          have n7' := hX7.next
          have rx7 := (hX7.keep (by omega) kbn5).trans rx5
          have hXb : EXF (tX4 b mid dm s) σ σ7 := EXF.two hXa hs5z hX7
          have kbn7 : σ.next + 15 ≠ b ∧ σ.next + 15 ≠ mid ∧ σ.next + 15 ≠ dm ∧ σ.next + 15 ≠ s7' := by
            refine ⟨kbn.1, kbn.2.1, kbn.2.2.1, ?_⟩
            rcases hs7 with e | e
            · rw [e]; exact kbn5.2.2.2
            · omega
          have hs7z : s7' = s ∨ σ.next ≤ s7' := by
            rcases hs7 with e | e
            · rw [e]; exact hs5z
            · have := hXa.next; exact Or.inr (by omega)
          have hXn := hXb.next
          simp only [YRUNA, YRUNB, Nat.reduceShiftRight, bit, c_seq, RUNA, RUNB, Nat.reduceAdd, Nat.reduceMod, Nat.reduceDiv, Nat.reduceSub, Nat.reduceMul, Nat.reduceEqDiff, Nat.reduceBEq, Nat.reduceLeDiff, Int.reduceToNat, fillS, wantG, vBox, Value.cells, one, putAt, TYA, s0, s1, s2, s3, s4, s5, s6, s11, rx7, k5 σ7 hk7, k6 σ7 hk7]
          obtain ⟨T0, rT0, oT0, eT0⟩ := hR5 lo k5'
          obtain ⟨T1, rT1, oT1, eT1⟩ := hR7 hi k6'
          obtain ⟨q7, hq7'⟩ := hq7
          have rT0' : Rep l7 T0 n5 := by rw [hq7']; exact rT0.mono
          refine wpc_mono (tvertex_spec hV7.tb hV7.fr (by omega) hv10 rT0' rT1 (oT0 _ (by omega) ho.2.2.2.1) (oT1 _ (by omega) ho.2.2.2.2)) ?_
          rintro r σ8 ⟨l8, T, n8, s8', rfl, hT8, hq8, hl8, rT, oT, eT, hs8, hX8, hF8⟩
          have n8' := hX8.next
          have hX8w : EXF (tX4 b mid dm s7') σ7 σ8 := hX8.wide
          have hV8 := hV7.tab rR.mono hT8 hq8 hs8 hX8 hF8
          have hk8 := hV8.kp
          have rx8 : σ8.row (σ.next + 15) = some ([.int .i64 vv, .int .i64 xl, .int .i64 xh], boxMeta) := (hX8w.keep (by omega) kbn7).trans rx7
          simp only [YRUNA, YRUNB, Nat.reduceShiftRight, bit, c_seq, RUNA, RUNB, Nat.reduceAdd, Nat.reduceMod, Nat.reduceDiv, Nat.reduceSub, Nat.reduceMul, Nat.reduceEqDiff, Nat.reduceBEq, Nat.reduceLeDiff, Int.reduceToNat, fillS, wantG, vBox, Value.cells, one, putAt, TYA, s0, s1, s2, s3, s4, s5, s6, s11, rx8, k5 σ8 hk8, k6 σ8 hk8]
          refine ⟨by simp only [c_seq, RUNA, RUNB, Nat.reduceAdd, Nat.reduceMod, Nat.reduceDiv, Nat.reduceSub, Nat.reduceMul, Nat.reduceEqDiff, Nat.reduceBEq, Nat.reduceLeDiff, Int.reduceToNat, fillS, wantG, vBox, Value.cells, one, putAt, s0], by simp only [c_seq, RUNA, RUNB, Nat.reduceAdd, Nat.reduceMod, Nat.reduceDiv, Nat.reduceSub, Nat.reduceMul, Nat.reduceEqDiff, Nat.reduceBEq, Nat.reduceLeDiff, Int.reduceToNat, fillS, wantG, vBox, Value.cells, one, putAt, s1], n8, l8, s8', g7, by simp only [c_seq, RUNA, RUNB, Nat.reduceAdd, Nat.reduceMod, Nat.reduceDiv, Nat.reduceSub, Nat.reduceMul, Nat.reduceEqDiff, Nat.reduceBEq, Nat.reduceLeDiff, Int.reduceToNat, fillS, wantG, vBox, Value.cells, one, putAt], hV8, ?_, ?_, rR.step hRR hvi eT0 eT1 rT oT eT, ?_, EXF.two hXb hs7z hX8w⟩
          · obtain ⟨q5, e5⟩ := hq5
            obtain ⟨q8, e8⟩ := hq8
            exact ⟨q5 ++ q7 ++ q8, by rw [e8, hq7', e5]; simp⟩
          · omega
          · rcases hs8 with e | e
            · rw [e]
              rcases hs7 with e' | e'
              · rw [e']
                rcases hs5 with e'' | e''
                · exact Or.inl e''
                · have := ex4.next; exact Or.inr ⟨by omega, by omega⟩
              · exact Or.inr ⟨by have := hXa.next; omega, by omega⟩
            · exact Or.inr ⟨by omega, by omega⟩
      · rintro S τ3 ⟨s0, s1, n1, l', s', g', s12, hV3, hq, hl, hR, hs, hX⟩
        simp only [c_seq, RUNA, RUNB, Nat.reduceAdd, Nat.reduceMod, Nat.reduceDiv, Nat.reduceSub, Nat.reduceMul, Nat.reduceEqDiff, Nat.reduceBEq, Nat.reduceLeDiff, Int.reduceToNat, fillS, wantG, vBox, Value.cells, one, putAt, TYA, s0, s1, s12, k1 τ3 hV3.kp]
        refine update_ex keyI Try.underlying71 hV3.mp ?_ (k := (k : Int)) rfl ?_
        · rfl
        intro es' hM
        simp only [c_seq, RUNA, RUNB, Nat.reduceAdd, Nat.reduceMod, Nat.reduceDiv, Nat.reduceSub, Nat.reduceMul, Nat.reduceEqDiff, Nat.reduceBEq, Nat.reduceLeDiff, Int.reduceToNat, fillS, wantG, vBox, Value.cells, one, putAt, TYA, s0, s1, s12, hr]
        refine ⟨n1, l', s', _, rfl, ((hV3.mono ?_).upd hM hR).mono ?_, hq, hl, hR, ?_, ?_⟩
        · repeat first | assumption | exact EXn.refl _ _ | refine EXn.more ?_ _ | refine EXn.put ?_ (by omega) _ | refine EX.trans ?_ (by assumption)
        · repeat first | assumption | exact EXn.refl _ _ | refine EXn.more ?_ _ | refine EXn.put ?_ (by omega) _ | refine EX.trans ?_ (by assumption)
        · rcases hs with hs | hs
          · exact Or.inl hs
          · exact Or.inr ⟨hs.1, by first | omega | (simp only [next_more, next_put] at *; omega)⟩
        · exact EXF.more (EXF.put (EXF.more hX 4) (Or.inr (Or.inr (Or.inr (Or.inl rfl)))) _) 2
set_option maxHeartbeats 2000000 in
theorem Restrict_spec {σ : St} {a : Value} {φ : As → Bool} {i : Int} {x : Bool} (ha : IsD 0 σ.next σ a φ) (hF : Fr σ) :
    wpc Try.prog 26 #[a, .int .i64 i, .bool x] σ fun r σ' => IsD σ.next σ'.next σ' r (fun f => φ (updI f i x)) ∧ EX σ σ' := by
  obtain ⟨A, hA, oA, eA⟩ := ha
  obtain ⟨gA, rA⟩ := cd_gd oA
  obtain ⟨ia, fa, ca, rowa, ma, rfl, -, la, wa, ta⟩ := hA.row oA
  refine body_go Try.func26 rfl ?_
  have hr := Try.results26
  simp only [c_seq, RUNA, RUNB, Nat.reduceAdd, Nat.reduceMod, Nat.reduceDiv, Nat.reduceSub, Nat.reduceMul, Nat.reduceEqDiff, Nat.reduceBEq, Nat.reduceLeDiff, Int.reduceToNat, fillS, wantG, vBox, Value.cells, one, putAt, TYA, hr]
  refine wpc_mono (safe_spec (hA.un ?_) (by first | omega | (simp only [next_more, next_put] at *; omega)) oA (by repeat first | assumption | refine Fr.more ?_ _ | refine Fr.put ?_ _ _)) ?_
  · repeat first | assumption | exact UN.refl _ _ _ | refine UN.more ?_ _ | refine UN.put ?_ (by omega) _ | refine UN.ex (by assumption) ?_ (by first | omega | (simp only [next_more, next_put]; omega)) | refine UN.exb (by assumption) ?_ (by first | omega | (simp only [next_more, next_put]; omega)) (by omega)
  rintro r σ1 ⟨rfl, hE1⟩
  have n1 := hE1.next
  simp only [next_more, next_put] at n1
  obtain ⟨xa, hxa⟩ : ∃ q : Nat, (cd A).2 = q := ⟨_, (Int.toNat_of_nonneg (Rep.lt gA.len rA).1).symm⟩
  rw [hxa] at rA
  have a1 : σ1.row σ.next = some ([.slice (some ⟨ia, fa, none⟩) (cd A).1.length ca, .int .i64 (cd A).2], boxMeta) := by rw [hE1.row _ (by first | omega | (simp only [next_more, next_put] at *; omega))]; simp only [c_seq, RUNA, RUNB, Nat.reduceAdd, Nat.reduceMod, Nat.reduceDiv, Nat.reduceSub, Nat.reduceMul, Nat.reduceEqDiff, Nat.reduceBEq, Nat.reduceLeDiff, Int.reduceToNat, fillS, wantG, vBox, Value.cells, one, putAt]
  have i1 : σ1.row (σ.next + 1) = some ([.int .i64 i], boxMeta) := by rw [hE1.row _ (by first | omega | (simp only [next_more, next_put] at *; omega))]; simp only [c_seq, RUNA, RUNB, Nat.reduceAdd, Nat.reduceMod, Nat.reduceDiv, Nat.reduceSub, Nat.reduceMul, Nat.reduceEqDiff, Nat.reduceBEq, Nat.reduceLeDiff, Int.reduceToNat, fillS, wantG, vBox, Value.cells, one, putAt]
  have x1 : σ1.row (σ.next + 2) = some ([.bool x], boxMeta) := by rw [hE1.row _ (by first | omega | (simp only [next_more, next_put] at *; omega))]; simp only [c_seq, RUNA, RUNB, Nat.reduceAdd, Nat.reduceMod, Nat.reduceDiv, Nat.reduceSub, Nat.reduceMul, Nat.reduceEqDiff, Nat.reduceBEq, Nat.reduceLeDiff, Int.reduceToNat, fillS, wantG, vBox, Value.cells, one, putAt]
  have r1 : σ1.row (σ.next + 3) = some ([.slice none 0 0, .int .i64 0], boxMeta) := by rw [hE1.row _ (by first | omega | (simp only [next_more, next_put] at *; omega))]; simp only [c_seq, RUNA, RUNB, Nat.reduceAdd, Nat.reduceMod, Nat.reduceDiv, Nat.reduceSub, Nat.reduceMul, Nat.reduceEqDiff, Nat.reduceBEq, Nat.reduceLeDiff, Int.reduceToNat, fillS, wantG, vBox, Value.cells, one, putAt]
  have e1 : EX σ σ1 := by repeat first | assumption | exact EXn.refl _ _ | refine EXn.more ?_ _ | refine EXn.put ?_ (by omega) _ | refine EX.trans ?_ (by assumption)
  have f1 := e1.fr hF
  simp only [c_seq, RUNA, RUNB, Nat.reduceAdd, Nat.reduceMod, Nat.reduceDiv, Nat.reduceSub, Nat.reduceMul, Nat.reduceEqDiff, Nat.reduceBEq, Nat.reduceLeDiff, Int.reduceToNat, fillS, wantG, vBox, Value.cells, one, putAt, TYA, a1, hxa]
  refine wpc_mono (newTable_spec _) ?_
  rintro r σ2 ⟨b, mid, s, rfl, hT, hb2, hm2, hs2, hE2⟩
  have n2 := hE2.next
  simp only [next_more, next_put] at n2 hb2 hm2 hs2
  simp only [c_seq, RUNA, RUNB, Nat.reduceAdd, Nat.reduceMod, Nat.reduceDiv, Nat.reduceSub, Nat.reduceMul, Nat.reduceEqDiff, Nat.reduceBEq, Nat.reduceLeDiff, Int.reduceToNat, fillS, wantG, vBox, Value.cells, one, putAt, TYA]
  refine update_ex keyI Try.underlying71 (MP.new ?_) rfl (k := 0) rfl ?_
  · rw [St.get_put, if_pos rfl]
  intro es1 hM1
  simp only [c_seq, RUNA, RUNB, Nat.reduceAdd, Nat.reduceMod, Nat.reduceDiv, Nat.reduceSub, Nat.reduceMul, Nat.reduceEqDiff, Nat.reduceBEq, Nat.reduceLeDiff, Int.reduceToNat, fillS, wantG, vBox, Value.cells, one, putAt, TYA]
  refine update_ex keyI Try.underlying71 hM1 rfl (k := 1) rfl ?_
  intro es2 hM2
  simp only [c_seq, RUNA, RUNB, Nat.reduceAdd, Nat.reduceMod, Nat.reduceDiv, Nat.reduceSub, Nat.reduceMul, Nat.reduceEqDiff, Nat.reduceBEq, Nat.reduceLeDiff, Int.reduceToNat, fillS, wantG, vBox, Value.cells, one, putAt, TYA]
  have e2 : EX σ σ2 := by repeat first | assumption | exact EXn.refl _ _ | refine EXn.more ?_ _ | refine EXn.put ?_ (by omega) _ | refine EX.trans ?_ (by assumption)
  have f2 := e2.fr hF
  have q0 : ¬ σ.next + 1 = σ.next := by omega
  have q1 : ¬ σ.next + 2 = σ.next := by omega
  have q2 : ¬ σ.next + 3 = σ.next := by omega
  have a2 : σ2.row σ.next = some ([.slice (some ⟨ia, fa, none⟩) (cd A).1.length ca, .int .i64 xa], boxMeta) := by rw [hE2.row _ (by first | omega | (simp only [next_more, next_put] at *; omega))]; simp only [c_seq, RUNA, RUNB, Nat.reduceAdd, Nat.reduceMod, Nat.reduceDiv, Nat.reduceSub, Nat.reduceMul, Nat.reduceEqDiff, Nat.reduceBEq, Nat.reduceLeDiff, Int.reduceToNat, fillS, wantG, vBox, Value.cells, one, putAt]
  have i2 : σ2.row (σ.next + 1) = some ([.int .i64 i], boxMeta) := by rw [hE2.row _ (by first | omega | (simp only [next_more, next_put] at *; omega))]; simp only [c_seq, RUNA, RUNB, Nat.reduceAdd, Nat.reduceMod, Nat.reduceDiv, Nat.reduceSub, Nat.reduceMul, Nat.reduceEqDiff, Nat.reduceBEq, Nat.reduceLeDiff, Int.reduceToNat, fillS, wantG, vBox, Value.cells, one, putAt, q0, i1]
  have x2 : σ2.row (σ.next + 2) = some ([.bool x], boxMeta) := by rw [hE2.row _ (by first | omega | (simp only [next_more, next_put] at *; omega))]; simp only [c_seq, RUNA, RUNB, Nat.reduceAdd, Nat.reduceMod, Nat.reduceDiv, Nat.reduceSub, Nat.reduceMul, Nat.reduceEqDiff, Nat.reduceBEq, Nat.reduceLeDiff, Int.reduceToNat, fillS, wantG, vBox, Value.cells, one, putAt, q1, x1]
  have r2 : σ2.row (σ.next + 3) = some ([.slice none 0 0, .int .i64 0], boxMeta) := by rw [hE2.row _ (by first | omega | (simp only [next_more, next_put] at *; omega))]; simp only [c_seq, RUNA, RUNB, Nat.reduceAdd, Nat.reduceMod, Nat.reduceDiv, Nat.reduceSub, Nat.reduceMul, Nat.reduceEqDiff, Nat.reduceBEq, Nat.reduceLeDiff, Int.reduceToNat, fillS, wantG, vBox, Value.cells, one, putAt, q2, r1]
  have hlt := hT.lt
  obtain ⟨H, hH⟩ : ∃ H : List (Nat × (List Value × Mta)), H = [(σ2.next + 4, ([.map (some σ2.next)], boxMeta)), (σ.next, ([.slice (some ⟨ia, fa, none⟩) (cd A).1.length ca, .int .i64 xa], boxMeta)), (σ.next + 1, ([.int .i64 i], boxMeta)), (σ.next + 2, ([.bool x], boxMeta)),
    (σ2.next + 6, ([.func (.func 51) #[] #[.pointer (some ⟨σ2.next + 4, 0, none⟩), .pointer (some ⟨σ.next, 0, none⟩), .pointer (some ⟨σ.next + 1, 0, none⟩), .pointer (some ⟨σ.next + 2, 0, none⟩), .pointer (some ⟨σ2.next + 6, 0, none⟩), .pointer (some ⟨σ1.next + 1, 0, none⟩)]], boxMeta)),
    (σ1.next + 1, ([.pointer (some ⟨b, 0, none⟩)], boxMeta)), (ia, (rowa, m3 ma))] := ⟨_, rfl⟩
  have hsk : ∀ p ∈ H, p.1 ≠ b ∧ p.1 ≠ mid ∧ p.1 ≠ σ2.next ∧ p.1 ≠ s := by
    intro p hp
    rw [hH] at hp
    simp only [List.mem_cons, List.not_mem_nil, or_false] at hp
    rcases hp with rfl | rfl | rfl | rfl | rfl | rfl | rfl <;> (simp only; omega)
  refine gen_go (fun S τ => S.at 3 = .pointer (some ⟨σ.next, 0, none⟩) ∧ S.at 6 = .pointer (some ⟨σ.next + 3, 0, none⟩) ∧ S.at 7 = .pointer (some ⟨σ1.next + 1, 0, none⟩) ∧ S.at 9 = .pointer (some ⟨σ2.next + 6, 0, none⟩) ∧ τ.row (σ.next + 3) = some ([.slice none 0 0, .int .i64 0], boxMeta) ∧ EX σ τ ∧ σ2.next + 7 ≤ τ.next ∧ IV H b mid σ2.next encI [0, 1] (rR (cd A).1 i x) s c01 (mset (mset (fun _ => none) 0 (.int .i64 0)) 1 (.int .i64 1)) τ) ?_ ?_
  · have q3 : ¬ σ.next + 3 = σ1.next + 1 := by omega
    have q4 : ¬ σ.next + 3 = σ2.next := by omega
    have q5 : ¬ σ.next + 3 = σ2.next + 4 := by omega
    have q6 : ¬ σ.next + 3 = σ2.next + 6 := by omega
    simp only [c_seq, RUNA, RUNB, Nat.reduceAdd, Nat.reduceMod, Nat.reduceDiv, Nat.reduceSub, Nat.reduceMul, Nat.reduceEqDiff, Nat.reduceBEq, Nat.reduceLeDiff, Int.reduceToNat, fillS, wantG, vBox, Value.cells, one, putAt, q3, q4, q5, q6, r2]
    refine ⟨?_, by omega, ⟨by repeat first | assumption | refine Fr.more ?_ _ | refine Fr.put ?_ _ _, ?_, ?_, hM2.of (by simp only [c_seq, RUNA, RUNB, Nat.reduceAdd, Nat.reduceMod, Nat.reduceDiv, Nat.reduceSub, Nat.reduceMul, Nat.reduceEqDiff, Nat.reduceBEq, Nat.reduceLeDiff, Int.reduceToNat, fillS, wantG, vBox, Value.cells, one, putAt]), by first | omega | (simp only [next_more, next_put] at *; omega), ⟨by omega, by omega, by omega⟩, hsk, fun k v h => ?_, fun k h => ?_⟩⟩
    · repeat first | assumption | exact EXn.refl _ _ | refine EXn.more ?_ _ | refine EXn.put ?_ (by omega) _ | refine EX.trans ?_ (by assumption)
    · intro p hp
      rw [hH] at hp
      simp only [List.mem_cons, List.not_mem_nil, or_false] at hp
      have w5 : ¬ σ1.next + 1 = σ2.next := by omega
      have w6 : ¬ σ1.next + 1 = σ2.next + 4 := by omega
      have w7 : ¬ σ1.next + 1 = σ2.next + 6 := by omega
      rcases hp with rfl | rfl | rfl | rfl | rfl | rfl | rfl
      · exact ⟨by first | omega | (simp only [next_more, next_put] at *; omega), by simp only [c_seq, RUNA, RUNB, Nat.reduceAdd, Nat.reduceMod, Nat.reduceDiv, Nat.reduceSub, Nat.reduceMul, Nat.reduceEqDiff, Nat.reduceBEq, Nat.reduceLeDiff, Int.reduceToNat, fillS, wantG, vBox, Value.cells, one, putAt]⟩
      · exact ⟨by first | omega | (simp only [next_more, next_put] at *; omega), by rw [EXn.row (n := σ1.next + 1) (σ := σ2) (by repeat first | assumption | exact EXn.refl _ _ | refine EXn.more ?_ _ | refine EXn.put ?_ (by omega) _ | refine EX.trans ?_ (by assumption)) _ (by simp only; omega)]; exact a2⟩
      · exact ⟨by first | omega | (simp only [next_more, next_put] at *; omega), by rw [EXn.row (n := σ1.next + 1) (σ := σ2) (by repeat first | assumption | exact EXn.refl _ _ | refine EXn.more ?_ _ | refine EXn.put ?_ (by omega) _ | refine EX.trans ?_ (by assumption)) _ (by simp only; omega)]; exact i2⟩
      · exact ⟨by first | omega | (simp only [next_more, next_put] at *; omega), by rw [EXn.row (n := σ1.next + 1) (σ := σ2) (by repeat first | assumption | exact EXn.refl _ _ | refine EXn.more ?_ _ | refine EXn.put ?_ (by omega) _ | refine EX.trans ?_ (by assumption)) _ (by simp only; omega)]; exact x2⟩
      · exact ⟨by first | omega | (simp only [next_more, next_put] at *; omega), by simp only [c_seq, RUNA, RUNB, Nat.reduceAdd, Nat.reduceMod, Nat.reduceDiv, Nat.reduceSub, Nat.reduceMul, Nat.reduceEqDiff, Nat.reduceBEq, Nat.reduceLeDiff, Int.reduceToNat, fillS, wantG, vBox, Value.cells, one, putAt]⟩
      · exact ⟨by first | omega | (simp only [next_more, next_put] at *; omega), by simp only [c_seq, RUNA, RUNB, Nat.reduceAdd, Nat.reduceMod, Nat.reduceDiv, Nat.reduceSub, Nat.reduceMul, Nat.reduceEqDiff, Nat.reduceBEq, Nat.reduceLeDiff, Int.reduceToNat, fillS, wantG, vBox, Value.cells, one, putAt, w5, w6, w7]⟩
      · exact ⟨by first | omega | (simp only [next_more, next_put] at *; omega), by rw [EXn.row (n := σ1.next + 1) (σ := σ2) (by repeat first | assumption | exact EXn.refl _ _ | refine EXn.more ?_ _ | refine EXn.put ?_ (by omega) _ | refine EX.trans ?_ (by assumption)) _ (by simp only; omega), e2.row _ la]; exact wa⟩
    · refine hT.exf (X := fun id => id = σ1.next + 1) ?_ (by omega) (by omega) (by omega)
      repeat first | exact EXF.refl _ _ | refine EXF.more ?_ _ | refine EXF.put ?_ (by first | exact Or.inl (by omega) | exact Or.inr rfl) _
    · unfold mset at h
      split at h
      · rename_i e; subst e; cases h; exact ⟨1, rfl, rR.const true c01⟩
      · split at h
        · rename_i e; subst e; cases h; exact ⟨0, rfl, rR.const false c01⟩
        · cases h
    · simp only [List.mem_cons, List.not_mem_nil, or_false] at h
      rcases h with rfl | rfl
      · exact ⟨.int .i64 0, rfl⟩
      · exact ⟨.int .i64 1, rfl⟩
  rintro S τ ⟨s3, s6, s7, s9, r3, hE, hn, hV⟩
  have nn := hE.next
  have hk := hV.kp
  have k1 : ∀ τ, Keep τ H → τ.row (σ2.next + 4) = some ([.map (some σ2.next)], boxMeta) := fun τ h => (h (_, _) (by rw [hH]; exact (.head _))).2
  have k2 : ∀ τ, Keep τ H → τ.row σ.next = some ([.slice (some ⟨ia, fa, none⟩) (cd A).1.length ca, .int .i64 xa], boxMeta) ∧ DV τ (.agg #[.slice (some ⟨ia, fa, none⟩) (cd A).1.length ca, .int .i64 xa]) ((cd A).1, (xa : Int)) := fun τ h => ⟨(h (_, _) (by rw [hH]; exact (.tail _ (.head _)))).2, dv_row (h (_, _) (by rw [hH]; exact (.tail _ (.tail _ (.tail _ (.tail _ (.tail _ (.tail _ (.head _))))))))).1 (h (_, _) (by rw [hH]; exact (.tail _ (.tail _ (.tail _ (.tail _ (.tail _ (.tail _ (.head _))))))))).2 ta⟩
  have k3 : ∀ τ, Keep τ H → τ.row (σ.next + 1) = some ([.int .i64 i], boxMeta) := fun τ h => (h (_, _) (by rw [hH]; exact (.tail _ (.tail _ (.head _))))).2
  have k4 : ∀ τ, Keep τ H → τ.row (σ.next + 2) = some ([.bool x], boxMeta) := fun τ h => (h (_, _) (by rw [hH]; exact (.tail _ (.tail _ (.tail _ (.head _)))))).2
  have k5 : ∀ τ, Keep τ H → τ.row (σ2.next + 6) = some ([.func (.func 51) #[] #[.pointer (some ⟨σ2.next + 4, 0, none⟩), .pointer (some ⟨σ.next, 0, none⟩), .pointer (some ⟨σ.next + 1, 0, none⟩), .pointer (some ⟨σ.next + 2, 0, none⟩), .pointer (some ⟨σ2.next + 6, 0, none⟩), .pointer (some ⟨σ1.next + 1, 0, none⟩)]], boxMeta) := fun τ h => (h (_, _) (by rw [hH]; exact (.tail _ (.tail _ (.tail _ (.tail _ (.head _))))))).2
  have k6 : ∀ τ, Keep τ H → τ.row (σ1.next + 1) = some ([.pointer (some ⟨b, 0, none⟩)], boxMeta) := fun τ h => (h (_, _) (by rw [hH]; exact (.tail _ (.tail _ (.tail _ (.tail _ (.tail _ (.head _)))))))).2
  refine d_go (ms := [0, 0, 0, 4, 14, 31, 63]) (order := [0, 1, 2, 3, 4, 5, 6]) (by kernel_rfl) (by kernel_rfl) (by kernel_rfl) ?_
  simp only [YRUNA, YRUNB, Nat.reduceShiftRight, bit, c_seq, RUNA, RUNB, Nat.reduceAdd, Nat.reduceMod, Nat.reduceDiv, Nat.reduceSub, Nat.reduceMul, Nat.reduceEqDiff, Nat.reduceBEq, Nat.reduceLeDiff, Int.reduceToNat, fillS, wantG, vBox, Value.cells, one, putAt, TYA, s3, s6, s7, s9, (k2 τ hk).1, k5 τ hk, k6 τ hk]
  have hc01 : c01.length = 2 := rfl
  have hp10 : 2 ^ (10 - 0) = 1024 := rfl
  refine wpc_mono (rvisit H (σ2.next + 4) σ.next (σ.next + 1) (σ.next + 2) (σ2.next + 6) (σ1.next + 1) b mid σ2.next (cd A).1 xa _ ca i x gA k1 k2 k3 k4 k5 k6 A xa 0 _ s c01 _ rA oA (by omega) (by omega) (hV.mono ?_)) ?_
  · repeat first | assumption | exact EXn.refl _ _ | refine EXn.more ?_ _ | refine EXn.put ?_ (by omega) _ | refine EX.trans ?_ (by assumption)
  rintro r σ3 ⟨n3, l3, s3', g3, rfl, hV3, hq3, hl3, hR3, hs3, hX3⟩
  have hk3 := hV3.kp
  have nx3 := hX3.next
  simp only [next_more] at nx3
  obtain ⟨T, rT, oT, eT⟩ := hR3 A rA
  have r3' : σ3.row (σ.next + 3) = some ([.slice none 0 0, .int .i64 0], boxMeta) := (hX3.keep (by first | omega | (simp only [next_more, next_put] at *; omega)) ⟨by omega, by omega, by omega, by omega⟩).trans r3
  have ex3 : EX σ σ3 := by
    refine EXF.ex (X := tX4 b mid σ2.next s) (EXF.comp (EXF.of ?_) (fun _ _ y => y) hX3) (fun i hi x => by rcases x with x | x | x | x <;> omega)
    repeat first | assumption | exact EXn.refl _ _ | refine EXn.more ?_ _ | refine EXn.put ?_ (by omega) _ | refine EX.trans ?_ (by assumption)
  simp only [YRUNA, YRUNB, Nat.reduceShiftRight, bit, c_seq, RUNA, RUNB, Nat.reduceAdd, Nat.reduceMod, Nat.reduceDiv, Nat.reduceSub, Nat.reduceMul, Nat.reduceEqDiff, Nat.reduceBEq, Nat.reduceLeDiff, Int.reduceToNat, fillS, wantG, vBox, Value.cells, one, putAt, TYA, s3, s6, s7, s9, (k2 σ3 hk3).1, k5 σ3 hk3, k6 σ3 hk3]
  refine wpc_mono (tdiagram_spec hV3.tb hV3.fr (by omega) rT (oT 0 (by omega) oA)) ?_
  rintro r σ4 ⟨hD4, hE4⟩
  have nx4 := hE4.next
  have hk4 := hk3.mono hE4
  have r4' := (hE4.row (σ.next + 3) (by omega)).trans r3'
  have ex4 : EX σ σ4 := EX.trans ex3 hE4
  have hI : IsD σ3.next σ4.next σ4 r (fun f => φ (updI f i x)) := ⟨T, hD4, oT 0 (by omega) oA, fun f => by rw [eT, eA]⟩
  obtain ⟨o, k, c, i', rfl⟩ := hI.open
  have w1 : ¬ σ.next = σ.next + 3 := by omega
  have w2 : ¬ σ2.next + 6 = σ.next + 3 := by omega
  have w3 : ¬ σ1.next + 1 = σ.next + 3 := by omega
  simp only [YRUNA, YRUNB, Nat.reduceShiftRight, bit, c_seq, RUNA, RUNB, Nat.reduceAdd, Nat.reduceMod, Nat.reduceDiv, Nat.reduceSub, Nat.reduceMul, Nat.reduceEqDiff, Nat.reduceBEq, Nat.reduceLeDiff, Int.reduceToNat, fillS, wantG, vBox, Value.cells, one, putAt, TYA, s3, s6, s7, s9, (k2 σ4 hk4).1, k5 σ4 hk4, k6 σ4 hk4, r4', w1, w2, w3, hr]
  refine ⟨IsD.weak (hI.un ?_) (by omega), ?_⟩
  · repeat first | assumption | exact UN.refl _ _ _ | refine UN.more ?_ _ | refine UN.put ?_ (by omega) _ | refine UN.ex (by assumption) ?_ (by first | omega | (simp only [next_more, next_put]; omega)) | refine UN.exb (by assumption) ?_ (by first | omega | (simp only [next_more, next_put]; omega)) (by omega)
  · repeat first | assumption | exact EXn.refl _ _ | refine EXn.more ?_ _ | refine EXn.put ?_ (by omega) _ | refine EX.trans ?_ (by assumption)
end Go.Proofs.Ytlealdhgajomhaa
