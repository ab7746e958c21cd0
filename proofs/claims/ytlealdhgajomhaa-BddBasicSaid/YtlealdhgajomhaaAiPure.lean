/- Operations that need no state: the model does what the abstract machine does. -/
import Derived.Test.YtlealdhgajomhaaAiRel
namespace Go.AI
set_option linter.unusedVariables false
set_option linter.unusedSimpArgs false

section
variable {P : Program} {μ : Mp}

theorem still_typeInfo (t : TypeId) : still P (typeInfo t) = P.info? t := by
  unfold typeInfo
  simp only [bind, Sem.bind, program, still]
  cases P.info? t <;> rfl
theorem still_underlying (t : TypeId) : still P (underlying t) = P.underlying t := by
  unfold underlying
  simp only [bind, Sem.bind, program, still]
  cases P.underlying t <;> rfl
theorem still_sizeOf (t : TypeId) : still P (Go.sizeOf t) = szOf P t := by
  unfold Go.sizeOf szOf
  rw [still_bind, still_typeInfo]
  cases P.info? t <;> rfl
theorem still_isAgg (t : TypeId) : still P (isAgg t) = aggOf P t := by
  unfold isAgg aggOf
  rw [still_bind, still_underlying]
  cases h : P.underlying t with
  | none => rfl
  | some d => cases d <;> rfl

theorem stillP_ok {s : Sem Value} {v : Value} (h : stillP P s = some v) : ∃ v', still P s = some v' ∧ VR μ v v' := by
  unfold stillP at h
  split at h <;> try cases h
  rename_i u hu
  cases hp : plain1 u with
  | false => simp [hp] at h
  | true => simp only [hp, cond_true, Option.some.injEq] at h; subst h; exact ⟨u, hu, .same1 hp⟩

/-! ### parts -/
theorem VRL.extract {xs us : Array Value} (r : VRL μ xs.toList us.toList) (i j : Nat) : VRL μ (xs.extract i j).toList (us.extract i j).toList := by
  simp only [Array.toList_extract, List.extract_eq_take_drop]
  exact (r.drop i).take (j - i)

theorem VRL.size {xs us : Array Value} (r : VRL μ xs.toList us.toList) : xs.size = us.size := by simpa using r.1

theorem apart_ok {t : TypeId} {cs us : Array Value} {off : Nat} {v : Value} (r : VRL μ cs.toList us.toList) (h : apart P t cs off = some v) : ∃ v', still P (part t us off) = some v' ∧ VR μ v v' := by
  unfold apart at h
  unfold part
  rw [still_bind, still_isAgg]
  cases ha : aggOf P t with
  | none => simp [ha] at h
  | some b =>
    cases b with
    | true =>
      simp only [ha] at h
      cases hs : szOf P t with
      | none => simp [hs] at h
      | some n =>
        simp only [hs, Option.some.injEq] at h
        subst h
        refine ⟨.agg (us.extract off (off + n)), ?_, .mkAgg' (r.extract _ _)⟩
        simp only [Option.bind_some, if_true, still_bind, still_sizeOf, hs, still_pure]
    | false =>
      simp only [ha] at h
      obtain ⟨u, hu, hr⟩ := r.get (i := off) (x := v) (by simpa using h)
      refine ⟨u, ?_, hr⟩
      have : us[off]? = some u := by simpa using hu
      simp [this, still_pure]

/-! ### fill -/
theorem fill_fold (place : Nat) : ∀ (c c' : List Value) (k : Nat) (A A' : Array Value), VRL μ c c' → VRL μ A.toList A'.toList →
    VRL μ ((c.zipIdx k).foldl (fun (cs : Array Value) x => cs.setIfInBounds (place + x.2) x.1) A).toList ((c'.zipIdx k).foldl (fun (cs : Array Value) x => cs.setIfInBounds (place + x.2) x.1) A').toList := by
  intro c
  induction c with
  | nil => intro c' k A A' hc hA; rw [hc.nil_inv]; simpa using hA
  | cons x c ih =>
    intro c' k A A' hc hA
    obtain ⟨u, c'', rfl, hx, hc'⟩ := hc.cons_inv
    simp only [List.zipIdx_cons, List.foldl_cons]
    refine ih _ _ _ _ hc' ?_
    simp only [Array.toList_setIfInBounds]
    exact hA.set hx _

def PR (μ : Mp) : List (Nat × Value) → List (Nat × Value) → Prop
  | [], [] => True
  | (i, x) :: xs, (j, u) :: us => i = j ∧ VR μ x u ∧ PR μ xs us
  | _, _ => False

theorem fill_ok (place : Nat → Option (Nat × Nat)) : ∀ (ps qs : List (Nat × Value)) (A A' : Array Value) (r : Array Value), PR μ ps qs → VRL μ A.toList A'.toList → Instr.fill place A ps = some r →
    ∃ r', Instr.fill place A' qs = some r' ∧ VRL μ r.toList r'.toList := by
  intro ps
  induction ps with
  | nil =>
    intro qs A A' r hp hA h
    cases qs with
    | nil => simp only [Instr.fill, Option.some.injEq] at h; subst h; exact ⟨A', rfl, hA⟩
    | cons q qs => exact hp.elim
  | cons p ps ih =>
    intro qs A A' r hp hA h
    obtain ⟨i, x⟩ := p
    cases qs with
    | nil => exact hp.elim
    | cons q qs =>
      obtain ⟨j, u⟩ := q
      obtain ⟨rfl, hx, hp'⟩ := hp
      have hsz : u.cells.size = x.cells.size := (hx.cells.size).symm
      have hsA : A'.size = A.size := hA.size.symm
      simp only [Instr.fill] at h ⊢
      cases hpl : place i with
      | none => simp [hpl] at h
      | some os =>
        obtain ⟨off, size⟩ := os
        simp only [hpl] at h ⊢
        rw [hsz, hsA]
        split at h
        · cases h
        · rename_i hn
          rw [if_neg hn]
          refine ih _ _ _ _ hp' ?_ h
          have := fill_fold (μ := μ) off x.cells.toList u.cells.toList 0 A A' hx.cells hA
          rw [← Array.foldl_toList, ← Array.foldl_toList, Array.toList_zipIdx, Array.toList_zipIdx]; exact this

theorem PR_map {ρ ρ' : Operand → Value} (l : List (Nat × Operand)) (h : ∀ x ∈ l, VR μ (ρ x.2) (ρ' x.2)) : PR μ (l.map fun (i, x) => (i, ρ x)) (l.map fun (i, x) => (i, ρ' x)) := by
  induction l with
  | nil => trivial
  | cons x l ih => exact ⟨rfl, h x (by simp), ih fun y hy => h y (by simp [hy])⟩

theorem VRL_map {ρ ρ' : Operand → Value} (l : List Operand) (h : ∀ x ∈ l, VR μ (ρ x) (ρ' x)) : VRL μ (l.map ρ) (l.map ρ') := by
  induction l with
  | nil => exact .nil
  | cons x l ih => exact .cons (h x (by simp)) (ih fun y hy => h y (by simp [hy]))

theorem abuild_ok {t : TypeId} {ps qs : Array (Nat × Value)} {v : Value} (r : PR μ ps.toList qs.toList) (h : abuild P t ps = some v) : ∃ v', still P (Instr.build t qs) = some v' ∧ VR μ v v' := by
  unfold abuild at h
  cases hz : still P (zeroValue t) with
  | none => simp [hz] at h
  | some z =>
    simp only [hz] at h
    cases hp : z.cells.toList.all plain0 with
    | false => simp [hp] at h
    | true =>
      simp only [hp, cond_true] at h
      unfold Instr.build
      simp only [still_bind, hz, Option.bind_some, still_underlying]
      cases hu : P.underlying t with
      | none => simp [hu] at h
      | some d =>
        simp only [hu] at h
        cases d with
        | struct fs =>
          simp only at h
          cases hm : still P (fs.mapM fun f => do pure (f.offset, ← Go.sizeOf f.type)) with
          | none => rw [hm] at h; cases h
          | some places =>
            simp only [hm, Option.map_eq_some_iff] at h
            obtain ⟨cs, hf, rfl⟩ := h
            obtain ⟨cs', hf', hr⟩ := fill_ok _ _ _ _ _ _ r (VRL.same hp) hf
            refine ⟨.agg cs', ?_, .mkAgg' hr⟩
            simp only [Option.bind_some, still_bind, hm]
            rw [hf']
            rfl
        | array n e =>
          simp only at h
          cases hs : szOf P e with
          | none => simp [hs] at h
          | some s =>
            simp only [hs, Option.map_eq_some_iff] at h
            obtain ⟨cs, hf, rfl⟩ := h
            obtain ⟨cs', hf', hr⟩ := fill_ok _ _ _ _ _ _ r (VRL.same hp) hf
            refine ⟨.agg cs', ?_, .mkAgg' hr⟩
            simp only [Option.bind_some, still_bind, still_sizeOf, hs]
            rw [hf']
            rfl
        | _ => simp at h

/-! ### addresses -/
theorem add_none (id off n : Nat) : (Addr.mk id off none).add n = ⟨id, off + n, none⟩ := by
  unfold Addr.add; split
  · rename_i h; subst h; rfl
  · rfl

theorem VR.ptr_inv {id off : Nat} {u : Value} (r : VR μ (.pointer (some ⟨id, off, none⟩)) u) : ∃ p, μ id = some p ∧ u = .pointer (some ⟨p.b, p.o + off, none⟩) := by
  cases r with
  | same _ h => simp [plain0] at h
  | ptr _ _ p h => exact ⟨p, h, rfl⟩

theorem VR.slc_inv {id off len c : Nat} {u : Value} (r : VR μ (.slice (some ⟨id, off, none⟩) len c) u) :
    ∃ p cap, μ id = some p ∧ u = .slice (some ⟨p.b, p.o + off, none⟩) len cap ∧ (c = len → cap = len) ∧ len ≤ cap ∧ p.o + off + cap * p.z ≤ p.e := by
  cases r with
  | same _ h => simp [plain0] at h
  | slc _ _ _ _ cap p h hc hl he => exact ⟨p, cap, h, rfl, hc, hl, he⟩

theorem VR.nilslc_inv {len c : Nat} {u : Value} (r : VR μ (.slice none len c) u) : len = 0 ∧ c = 0 ∧ u = .slice none 0 0 := by
  cases r with
  | same _ h => simp only [plain0, nbeq, Bool.and_eq_true, decide_eq_true_eq] at h; obtain ⟨rfl, rfl⟩ := h; exact ⟨rfl, rfl, rfl⟩

theorem VR.int_inv {k : IntKind} {n : Int} {u : Value} (r : VR μ (.int k n) u) : u = .int k n := r.eq0 rfl
theorem VR.bool_inv {b : Bool} {u : Value} (r : VR μ (.bool b) u) : u = .bool b := r.eq0 rfl
theorem VR.string_inv {s : ByteArray} {u : Value} (r : VR μ (.string s) u) : u = .string s := r.eq0 rfl

theorem afieldAddr_ok {s : TypeId} {a b v : Value} {f : Nat} (r : VR μ a b) (h : afieldAddr P s a f = some v) : ∃ v', still P (Instr.fieldAt s b f) = some v' ∧ VR μ v v' := by
  unfold afieldAddr at h
  unfold Instr.fieldAt
  rw [still_bind, still_underlying]
  split at h <;> try cases h
  rename_i fs hu
  split at h <;> try cases h
  rename_i fd hf
  split at h <;> try cases h
  rename_i n hn
  split at h <;> try cases h
  rename_i id off
  obtain ⟨p, hp, rfl⟩ := r.ptr_inv
  rw [nbeq, Bool.cond_decide] at h
  split at h
  · cases h
  · rename_i hn0
    cases h
    refine ⟨.pointer (some ⟨p.b, p.o + (off + fd.offset), none⟩), ?_, .ptr _ _ p hp⟩
    simp only [hu, Option.bind_some, hf, Instr.sureAddr, still_bind, still_pure, fieldPlace, still_sizeOf, hn, if_neg hn0, add_none, Nat.add_assoc]

theorem afield_ok {t : TypeId} {a b v : Value} {f : Nat} (r : VR μ a b) (h : afield P t a f = some v) : ∃ v', still P (Instr.field t b f) = some v' ∧ VR μ v v' := by
  unfold afield at h
  unfold Instr.field
  rw [still_bind, still_underlying]
  split at h <;> try cases h
  rename_i fs hu
  split at h <;> try cases h
  rename_i fd hf
  split at h <;> try cases h
  obtain ⟨us, rfl, hl⟩ := r.agg_inv
  obtain ⟨v', hv, hr⟩ := apart_ok hl h
  refine ⟨v', ?_, hr⟩
  simp only [hu, Option.bind_some, hf, asAgg, still_bind, still_pure, hv]

theorem inRange_iff {i : Int} {n : Nat} : inRange i n = true ↔ 0 ≤ i ∧ i < (n : Int) := by simp [inRange]

theorem aindexAddr_ok {t : TypeId} {a b i j v : Value} (r : VR μ a b) (ri : VR μ i j) (h : aindexAddr P t a i = some v) : ∃ v', still P (Instr.indexAt t b j) = some v' ∧ VR μ v v' := by
  unfold aindexAddr at h
  unfold Instr.indexAt
  split at h <;> try cases h
  rename_i k n
  obtain rfl := ri.int_inv
  rw [still_bind]
  simp only [asIntOf, still_pure, Option.bind_some]
  rw [still_bind, still_underlying]
  split at h <;> try cases h
  · rename_i e hu
    split at h <;> try cases h
    rename_i id off len c
    obtain ⟨p, cap, hp, rfl, _⟩ := r.slc_inv
    split at h <;> try cases h
    rename_i z hz
    cases hin : inRange n len with
    | false => simp [hin] at h
    | true =>
      simp only [hin, cond_true, Option.some.injEq] at h
      subst h
      rw [inRange_iff] at hin
      refine ⟨.pointer (some ⟨p.b, p.o + (off + n.toNat * z), none⟩), ?_, .ptr _ _ p hp⟩
      simp only [hu, Option.bind_some, still_bind, still_pure, still_underlying, if_pos hin, still_sizeOf, hz, add_none, Nat.add_assoc]
  · rename_i len e hu
    split at h <;> try cases h
    rename_i id off
    obtain ⟨p, hp, rfl⟩ := r.ptr_inv
    split at h <;> try cases h
    rename_i z hz
    cases hin : inRange n len with
    | false => simp [hin] at h
    | true =>
      simp only [hin, cond_true, Option.some.injEq] at h
      subst h
      rw [inRange_iff] at hin
      refine ⟨.pointer (some ⟨p.b, p.o + (off + n.toNat * z), none⟩), ?_, .ptr _ _ p hp⟩
      simp only [hu, Option.bind_some, still_bind, still_pure, still_underlying, if_pos hin, still_sizeOf, hz, add_none, Nat.add_assoc, Instr.sureAddr]

theorem aindex_ok {t : TypeId} {a b i j v : Value} (r : VR μ a b) (ri : VR μ i j) (h : aindex P t a i = some v) : ∃ v', still P (Instr.index t b j) = some v' ∧ VR μ v v' := by
  unfold aindex at h
  split at h <;> try cases h
  · rename_i hu
    cases hp : (plain0 a && plain0 i) with
    | false => simp [hp] at h
    | true =>
      simp only [hp, cond_true] at h
      simp only [Bool.and_eq_true] at hp
      obtain rfl := r.eq0 hp.1
      obtain rfl := ri.eq0 hp.2
      exact stillP_ok h
  · rename_i len e hu
    split at h <;> try cases h
    rename_i k n cs
    obtain rfl := ri.int_inv
    obtain ⟨us, rfl, hl⟩ := r.agg_inv
    split at h <;> try cases h
    rename_i z hz
    cases hin : inRange n len with
    | false => simp [hin] at h
    | true =>
      simp only [hin, cond_true] at h
      rw [inRange_iff] at hin
      obtain ⟨v', hv, hr⟩ := apart_ok hl h
      refine ⟨v', ?_, hr⟩
      unfold Instr.index
      simp only [asIntOf, still_bind, still_pure, Option.bind_some, still_underlying, hu, if_pos hin, still_sizeOf, hz, hv]

/-! ### slices -/
theorem sliceBound_ok {n : Int} {k : IntKind} {y : Nat} {code : BoundsCode} (h0 : 0 ≤ n) (h1 : n ≤ (y : Int)) : still P (Instr.sliceBound (.int k n) y code) = some n.toNat := by
  unfold Instr.sliceBound
  simp only [asIntOf, still_bind, still_pure, Option.bind_some]
  rw [if_pos ⟨h0, h1⟩]; rfl

theorem intOpt_some {a : Option Value} {l : Option Int} (h : intOpt a = some l) : (a = none ∧ l = none) ∨ ∃ k n, a = some (.int k n) ∧ l = some n := by
  unfold intOpt at h
  split at h
  · cases h; exact .inl ⟨rfl, rfl⟩
  · rename_i k n; cases h; exact .inr ⟨k, n, rfl, rfl⟩
  · cases h

def OR (μ : Mp) : Option Value → Option Value → Prop
  | none, none => True
  | some x, some u => VR μ x u
  | _, _ => False

theorem OR_map {ρ ρ' : Operand → Value} (x : Option Operand) (h : ∀ y, x = some y → VR μ (ρ y) (ρ' y)) : OR μ (x.map ρ) (x.map ρ') := by
  cases x with
  | none => trivial
  | some y => exact h y rfl

theorem OR.int {a b : Option Value} {l : Option Int} (r : OR μ a b) (h : intOpt a = some l) : b = a := by
  rcases intOpt_some h with ⟨rfl, rfl⟩ | ⟨k, n, rfl, rfl⟩
  · cases b with
    | none => rfl
    | some x => exact r.elim
  · cases b with
    | none => exact r.elim
    | some x => rw [VR.int_inv r]

theorem OR.plain {a b : Option Value} (r : OR μ a b) (h : plain0 (a.getD (.bool true)) = true) : b = a := by
  cases a with
  | none => cases b with
    | none => rfl
    | some x => exact r.elim
  | some y => cases b with
    | none => exact r.elim
    | some x => rw [VR.eq0 r h]

/-- the three bounds of a slice expression, where the model does not panic -/
theorem sliceBounds_ok {lo hi mx : Option Value} {len cap : Nat} {l h m : Option Int} (hl : intOpt lo = some l) (hh : intOpt hi = some h) (hm : intOpt mx = some m)
    (hmh : m ≠ none → h ≠ none) (h0 : 0 ≤ l.getD 0) (h1 : l.getD 0 ≤ h.getD (len : Int)) (h2 : h.getD (len : Int) ≤ m.getD (cap : Int)) (h3 : m.getD (cap : Int) ≤ (cap : Int)) (h4 : len ≤ cap) :
    still P (Instr.sliceBounds true len cap lo hi mx) = some ((l.getD 0).toNat, (h.getD (len : Int)).toNat, (m.getD (cap : Int)).toNat) := by
  unfold Instr.sliceBounds
  rcases intOpt_some hm with ⟨rfl, rfl⟩ | ⟨km, nm, rfl, rfl⟩
  · rcases intOpt_some hh with ⟨rfl, rfl⟩ | ⟨kh, nh, rfl, rfl⟩
    · rcases intOpt_some hl with ⟨rfl, rfl⟩ | ⟨kl, nl, rfl, rfl⟩
      · simp [still_bind, still_pure]
      · simp only [Option.getD_none, Option.getD_some] at *
        simp only [still_bind, still_pure, Option.bind_some, sliceBound_ok h0 h1, Int.toNat_natCast]
    · rcases intOpt_some hl with ⟨rfl, rfl⟩ | ⟨kl, nl, rfl, rfl⟩
      · simp only [Option.getD_none, Option.getD_some] at *
        simp only [still_bind, still_pure, Option.bind_some, sliceBound_ok (show 0 ≤ nh by omega) h2, Int.toNat_natCast, Int.toNat_zero]
      · simp only [Option.getD_none, Option.getD_some] at *
        simp only [still_bind, still_pure, Option.bind_some, sliceBound_ok (show 0 ≤ nh by omega) h2, Int.toNat_natCast]
        rw [sliceBound_ok h0 (by omega)]; rfl
  · rcases intOpt_some hh with ⟨rfl, rfl⟩ | ⟨kh, nh, rfl, rfl⟩
    · exact absurd rfl (hmh (by simp))
    · rcases intOpt_some hl with ⟨rfl, rfl⟩ | ⟨kl, nl, rfl, rfl⟩
      · simp only [Option.getD_none, Option.getD_some] at *
        simp only [still_bind, still_pure, Option.bind_some, sliceBound_ok (show 0 ≤ nm by omega) h3, Int.toNat_zero]
        rw [sliceBound_ok (show 0 ≤ nh by omega) (by omega)]; rfl
      · simp only [Option.getD_none, Option.getD_some] at *
        simp only [still_bind, still_pure, Option.bind_some, sliceBound_ok (show 0 ≤ nm by omega) h3]
        rw [sliceBound_ok (show 0 ≤ nh by omega) (by omega)]
        simp only [Option.bind_some]
        rw [sliceBound_ok h0 (by omega)]; rfl

theorem aslice_ok {σ : St} {t : TypeId} {a b v : Value} {lo hi mx lo' hi' mx' : Option Value} (hZ : ∀ id p z, μ id = some p → rowZ σ id z = true → p.z = z)
    (r : VR μ a b) (rl : OR μ lo lo') (rh : OR μ hi hi') (rm : OR μ mx mx') (h : aslice P σ t a lo hi mx = some v) :
    ∃ v', still P (Instr.sliceAt t b lo' hi' mx') = some v' ∧ VR μ v v' := by
  unfold aslice at h
  split at h <;> try cases h
  · rename_i hu
    split at h <;> try cases h
    rename_i s
    obtain rfl := r.string_inv
    cases hp : (mx.isNone && plain0 (lo.getD (.bool true)) && plain0 (hi.getD (.bool true))) with
    | false => simp [hp] at h
    | true =>
      simp only [hp, cond_true] at h
      simp only [Bool.and_eq_true] at hp
      obtain rfl := rl.plain hp.1.2
      obtain rfl := rh.plain hp.2
      have : mx = none := by simpa using hp.1.1
      subst this
      obtain rfl : mx' = none := by cases mx' with | none => rfl | some x => exact rm.elim
      exact stillP_ok h
  · rename_i e hu
    split at h <;> try cases h
    rename_i base len c
    split at h <;> try cases h
    rename_i z l hh m hz hl hhi hm
    obtain rfl := rl.int hl
    obtain rfl := rh.int hhi
    obtain rfl := rm.int hm
    simp only at h
    cases hb : (decide (0 ≤ l.getD 0) && decide (l.getD 0 ≤ hh.getD (len : Int)) && decide (hh.getD (len : Int) ≤ (len : Int))) with
    | false => rw [hb] at h; cases h
    | true =>
      rw [hb] at h
      simp only [Bool.and_eq_true, decide_eq_true_eq] at hb
      obtain ⟨⟨h0, h1⟩, h2⟩ := hb
      simp only [cond_true] at h
      have hS : ∀ x, still P (Instr.sliceAt t x lo' hi' mx') = still P (Instr.slice t x lo' hi' mx') := by
        intro x; unfold Instr.sliceAt; rw [still_bind, still_underlying, hu]; rfl
      rw [hS]
      unfold Instr.slice
      rw [still_bind, still_underlying, hu]
      simp only [Option.bind_some]
      split at h
      · -- nil
        obtain ⟨rfl, rfl, rfl⟩ := r.nilslc_inv
        cases hmx : mx'.isNone with
        | false => simp [hmx] at h
        | true =>
          simp only [hmx, cond_true, Option.some.injEq] at h
          subst h
          have : mx' = none := by simpa using hmx
          subst this
          rcases intOpt_some hm with ⟨_, rfl⟩ | ⟨_, _, e, _⟩
          · have hB := sliceBounds_ok (P := P) (len := 0) (cap := 0) hl hhi hm (by simp) h0 h1 (by simpa using h2) (by simp) (Nat.le_refl _)
            refine ⟨.slice none 0 0, ?_, .same _ rfl⟩
            simp only [Option.getD_none] at hB
            rw [still_bind, hB]
            have e1 : (l.getD 0).toNat = 0 := by simp only [Int.natCast_zero] at h2 h1; omega
            have e2 : (hh.getD ((0 : Nat) : Int)).toNat = 0 := by simp only [Int.natCast_zero] at h2 h1 ⊢; omega
            simp only [Option.bind_some, still_bind, still_sizeOf, hz, e1, e2, Int.toNat_natCast, if_true, Nat.sub_self, still_pure]
          · cases e
      · rename_i id off
        obtain ⟨p, cap, hp, rfl, hc, hlc, he⟩ := r.slc_inv
        cases hrz : rowZ σ id z with
        | false => rw [hrz] at h; cases h
        | true =>
        rw [hrz] at h
        simp only [cond_true] at h
        have hpz := hZ id p z hp hrz
        generalize hL : (l.getD 0).toNat = L at *
        generalize hH : (hh.getD (len : Int)).toNat = H at *
        have hLH : L ≤ H := by omega
        have hHl : H ≤ len := by omega
        have hmul : p.o + (off + L * z) + (cap - L) * p.z ≤ p.e := by
          have : (cap - L) * p.z = cap * p.z - L * p.z := Nat.sub_mul _ _ _
          have h' : L * p.z ≤ cap * p.z := Nat.mul_le_mul_right _ (by omega)
          rw [← hpz]; omega
        split at h
        · -- two bounds
          rename_i hmn
          rcases intOpt_some hm with ⟨rfl, _⟩ | ⟨_, _, _, e⟩
          · have hB := sliceBounds_ok (P := P) (len := len) (cap := cap) hl hhi hm (by simp) h0 h1 (by simp; omega) (by simp) hlc
            simp only [Option.getD_none, Int.toNat_natCast, hL, hH] at hB
            simp only
            rw [still_bind, hB]
            simp only [Option.bind_some, still_bind, still_sizeOf, hz, still_pure]
            refine ⟨_, rfl, ?_⟩
            simp only [nbeq, Bool.cond_decide, ← Bool.decide_and] at h
            split at h
            · rename_i hcl
              obtain ⟨hcl, hhl⟩ := hcl
              have hcap := hc hcl
              subst hcap
              split at h
              · rename_i hll
                cases h
                rw [if_pos hll.symm, hhl, hll, Nat.sub_self]
                exact .slc id off 0 0 0 p hp (fun _ => rfl) (Nat.le_refl _) (by simp; have := Nat.zero_le (cap * p.z); omega)
              · rename_i hll
                cases h
                rw [if_neg (by omega), hhl]
                simp only [Option.map_some, add_none, Nat.add_assoc]
                exact .slc id (off + L * z) (cap - L) (cap - L) (cap - L) p hp (fun _ => rfl) (Nat.le_refl _) hmul
            · split at h
              · rename_i hcl hhl
                cases h
                obtain ⟨hhl, hl0⟩ := hhl
                have : ¬ cap = L ∨ cap = 0 := by omega
                subst hhl; subst hl0
                have e3 : (if cap = 0 then some (Addr.mk p.b (p.o + off) none) else Option.map (fun x => x.add (0 * z)) (some (Addr.mk p.b (p.o + off) none))) = some (Addr.mk p.b (p.o + off) none) := by
                  split
                  · rfl
                  · simp [add_none]
                rw [e3]
                exact .slc id off _ c cap p hp hc hlc he
              · split at h
                · rename_i hll
                  cases h
                  rw [if_neg (by omega)]
                  simp only [Option.map_some, add_none, Nat.add_assoc]
                  exact .slc id (off + L * z) (H - L) (H - L + 1) (cap - L) p hp (fun e => by omega) (by omega) hmul
                · cases h
                  rw [show H - L = 0 by omega]
                  split
                  · exact .emp _ _
                  · simp only [Option.map_some]; exact .emp _ _
          · cases e
        · rename_i m'
          rcases intOpt_some hm with ⟨_, e⟩ | ⟨km, nm, rfl, e⟩
          · cases e
          · cases e
            cases hd : (decide (hh.getD (len : Int) = m') && decide (l.getD 0 < m') && hh.isSome) with
            | false => rw [hd] at h; cases h
            | true =>
              rw [hd] at h
              simp only [Bool.and_eq_true, decide_eq_true_eq] at hd
              obtain ⟨⟨hd1, hd2⟩, hd3⟩ := hd
              simp only [cond_true, Option.some.injEq] at h
              subst h
              have hn : hh ≠ none := by intro e; subst e; cases hd3
              have hB := sliceBounds_ok (P := P) (len := len) (cap := cap) hl hhi hm (fun _ => hn) h0 h1 (by simp; omega) (by simp; omega) hlc
              simp only [Option.getD_some, hL, hH] at hB
              simp only
              rw [still_bind, hB]
              simp only [Option.bind_some, still_bind, still_sizeOf, hz, still_pure]
              refine ⟨_, rfl, ?_⟩
              have hm' : m'.toNat = H := by omega
              rw [hm', if_neg (by omega)]
              simp only [Option.map_some, add_none, Nat.add_assoc]
              have hm2 : p.o + (off + L * z) + (H - L) * p.z ≤ p.e := by
                have : (H - L) * p.z ≤ (cap - L) * p.z := Nat.mul_le_mul_right _ (by omega)
                omega
              exact .slc id (off + L * z) (H - L) (H - L) (H - L) p hp (fun _ => rfl) (Nat.le_refl _) hm2
      · cases h

/-! ### the other ones -/
theorem alen_ok {t : TypeId} {a b v : Value} {ts : Array TypeId} {ty : TypeId} {us : Array Value} (r : VR μ a b) (ht : ts[0]? = some t) (hb : us[0]? = some b) (h : alen P t a = some v) :
    ∃ v', still P (Builtin.len_ ts ty us) = some v' ∧ VR μ v v' := by
  unfold alen at h
  unfold Builtin.len_
  simp only [ht, hb]
  rw [still_bind, still_underlying]
  split at h <;> try cases h
  · rename_i e hu
    split at h <;> try cases h
    rename_i base n c
    have : ∃ base' cap, b = .slice base' n cap := by
      cases base with
      | none => obtain ⟨rfl, rfl, rfl⟩ := r.nilslc_inv; exact ⟨none, 0, rfl⟩
      | some a =>
        cases r with
        | same _ h => simp [plain0] at h
        | slc id off len c cap p h hc hl he => exact ⟨_, _, rfl⟩
        | emp a cap => exact ⟨_, _, rfl⟩
    obtain ⟨base', cap, rfl⟩ := this
    exact ⟨goInt n, by simp [hu, still_pure], .same _ rfl⟩
  · rename_i hu
    split at h <;> try cases h
    rename_i s
    obtain rfl := r.string_inv
    exact ⟨goInt s.size, by simp [hu, still_pure], .same _ rfl⟩
  · rename_i n e hu
    exact ⟨goInt n, by simp [hu, still_pure], .same _ rfl⟩

theorem eq_slice_nil {t e : TypeId} (ht : P.underlying t = some (.slice e)) (a : Addr) (l c l' c' : Nat) : still P (Op.equal t (.slice (some a) l c) (.slice none l' c')) = some false := by
  unfold Op.equal
  rw [show Op.maxDepth = Nat.succ 9999 from rfl, Op.equalIn.eq_2, still_bind, still_underlying, ht]; rfl
theorem eq_nil_slice {t e : TypeId} (ht : P.underlying t = some (.slice e)) (a : Addr) (l c l' c' : Nat) : still P (Op.equal t (.slice none l' c') (.slice (some a) l c)) = some false := by
  unfold Op.equal
  rw [show Op.maxDepth = Nat.succ 9999 from rfl, Op.equalIn.eq_2, still_bind, still_underlying, ht]; rfl

theorem anil_ok {op : BinOp} {t : TypeId} {a b c d v : Value} {x y : Operand} (r : VR μ a b) (s : VR μ c d) (ht : ∃ e, P.underlying t = some (.slice e)) (h : anil op a c = some v) :
    ∃ v', still P (do eqGuard op t x y b d; binOp op t b d) = some v' ∧ VR μ v v' := by
  obtain ⟨e, ht⟩ := ht
  unfold anil at h
  simp only at h
  split at h
  · rename_i a0 l c l' c'
    obtain ⟨rfl, rfl, rfl⟩ := s.nilslc_inv
    have : ∃ a1 l1 c1, b = .slice (some a1) l1 c1 := by
      cases r with
      | same _ h => simp [plain0] at h
      | slc id off len c cap p h hc hl he => exact ⟨_, _, _, rfl⟩
      | emp a cap => exact ⟨_, _, _, rfl⟩
    obtain ⟨a1, l1, c1, rfl⟩ := this
    cases op <;> simp only at h <;> first
      | (cases h; refine ⟨_, ?_, .same _ rfl⟩; simp only [still_bind, eqGuard, Bool.not_true, Bool.false_eq_true, if_false, still_pure, Option.bind_some, binOp, eq_slice_nil ht]; done)
      | cases h
  · rename_i l c a0 l' c'
    obtain ⟨rfl, rfl, rfl⟩ := r.nilslc_inv
    have : ∃ a1 l1 c1, d = .slice (some a1) l1 c1 := by
      cases s with
      | same _ h => simp [plain0] at h
      | slc id off len c cap p h hc hl he => exact ⟨_, _, _, rfl⟩
      | emp a cap => exact ⟨_, _, _, rfl⟩
    obtain ⟨a1, l1, c1, rfl⟩ := this
    cases op <;> simp only at h <;> first
      | (cases h; refine ⟨_, ?_, .same _ rfl⟩; simp only [still_bind, eqGuard, Bool.not_true, Bool.false_eq_true, if_false, still_pure, Option.bind_some, binOp, eq_nil_slice ht]; done)
      | cases h
  · cases h

theorem callee_operands (c : Call) : ∀ x ∈ c.args.toList, x ∈ (Op.call c).operands := by
  intro x hx
  simp only [Op.operands, Call.operands]
  exact Array.mem_append.2 (.inr (Array.mem_toList_iff.1 hx))

/-- **Operations without a state.** -/
theorem apure_ok {ρ ρ' : Operand → Value} {o : Oper} {v : Value} (hρ : ∀ x ∈ o.op.operands, VR μ (ρ x) (ρ' x)) (h : apure P ρ o = some v) :
    ∃ v', still P (execOp ρ' o) = some (.value v') ∧ VR μ v v' := by
  have fin : ∀ {s : Sem Value}, (∃ v', still P s = some v' ∧ VR μ v v') → ∃ v', still P (do pure (Next.value (← s))) = some (.value v') ∧ VR μ v v' := by
    rintro s ⟨v', h1, h2⟩
    exact ⟨v', by rw [still_bind, h1]; rfl, h2⟩
  unfold apure at h
  unfold execOp
  cases ho : o.op <;> simp only [ho] at h hρ ⊢ <;> try cases h
  case move x => exact ⟨_, rfl, hρ x (by simp [Op.operands])⟩
  case assign x => exact ⟨_, rfl, hρ x (by simp [Op.operands])⟩
  case pick c a b =>
    have hc := hρ c (by simp [Op.operands])
    split at h <;> try cases h
    · rename_i hb
      rw [hb] at hc
      rw [hc.bool_inv]
      exact ⟨_, rfl, hρ a (by simp [Op.operands])⟩
    · rename_i hb
      rw [hb] at hc
      rw [hc.bool_inv]
      exact ⟨_, rfl, hρ b (by simp [Op.operands])⟩
  case build t parts =>
    refine fin (abuild_ok ?_ h)
    simpa using PR_map parts.toList (fun x hx => hρ x.2 (by simp [Op.operands]; exact ⟨_, Array.mem_toList_iff.1 hx⟩))
  case nilCheck x =>
    have hx := hρ x (by simp [Op.operands])
    split at h <;> try cases h
    rename_i a ha
    rw [ha] at hx
    generalize ρ' x = u at hx ⊢
    cases hx with
    | same _ h => simp [plain0] at h
    | ptr id off p hp => exact ⟨_, rfl, .ptr id off p hp⟩
  case binOp op t x y yt =>
    have hx := hρ x (by simp [Op.operands])
    have hy := hρ y (by simp [Op.operands])
    cases hp : (plain1 (ρ x) && plain1 (ρ y)) with
    | true =>
      simp only [hp, cond_true] at h
      simp only [Bool.and_eq_true] at hp
      rw [hx.eq1 hp.1, hy.eq1 hp.2]
      exact fin (stillP_ok h)
    | false =>
      simp only [hp, cond_false] at h
      split at h <;> try cases h
      rename_i e hu
      exact fin (anil_ok hx hy ⟨e, hu⟩ h)
  case unOp op t x =>
    have hx := hρ x (by simp [Op.operands])
    cases hp : plain0 (ρ x) with
    | true => simp only [hp, cond_true] at h; rw [hx.eq0 hp]; exact fin (stillP_ok h)
    | false => simp [hp] at h
  case convert s d x =>
    have hx := hρ x (by simp [Op.operands])
    cases hp : plain0 (ρ x) with
    | true => simp only [hp, cond_true] at h; rw [hx.eq0 hp]; exact fin (stillP_ok h)
    | false => simp [hp] at h
  case makeFunc fn first captured =>
    refine ⟨.func fn (first.map ρ') (captured.map ρ'), rfl, ?_⟩
    have h1 := VRL_map (μ := μ) (ρ := ρ) (ρ' := ρ') first.toList (fun x hx => hρ x (by simp [Op.operands]; exact .inl (Array.mem_toList_iff.1 hx)))
    have h2 := VRL_map (μ := μ) (ρ := ρ) (ρ' := ρ') captured.toList (fun x hx => hρ x (by simp [Op.operands]; exact .inr (Array.mem_toList_iff.1 hx)))
    exact .fn fn _ _ _ _ (by simp) (by simpa using h1.2) (by simp) (by simpa using h2.2)
  case fieldAddr s x f => exact fin (afieldAddr_ok (hρ x (by simp [Op.operands])) h)
  case field t x f => exact fin (afield_ok (hρ x (by simp [Op.operands])) h)
  case indexAddr t x i => exact fin (aindexAddr_ok (hρ x (by simp [Op.operands])) (hρ i (by simp [Op.operands])) h)
  case index t x i => exact fin (aindex_ok (hρ x (by simp [Op.operands])) (hρ i (by simp [Op.operands])) h)
  case extract t i =>
    have hx := hρ t (by simp [Op.operands])
    split at h <;> try cases h
    rename_i vs hvs
    rw [hvs] at hx
    obtain ⟨us, he, hl⟩ := hx.tuple_inv
    rw [he]
    obtain ⟨u, hu, hr⟩ := hl.get (i := i) (x := v) (by simpa using h)
    refine fin ⟨u, ?_, hr⟩
    have : us[i]? = some u := by simpa using hu
    simp [Instr.extract, this, still_pure]
  case call c =>
    unfold acallPure at h
    have hargs := VRL_map (μ := μ) (ρ := ρ) (ρ' := ρ') c.args.toList (fun x hx => hρ x (callee_operands c x hx))
    split at h <;> try cases h
    · rename_i hc
      split at h <;> try cases h
      rename_i t x ht hx
      have hx' : c.args.toList[0]? = some x := by simpa using hx
      obtain ⟨v', h1, h2⟩ := alen_ok (P := P) (ts := c.argTypes) (ty := o.type) (us := c.args.map ρ') (hρ x (callee_operands c x (List.mem_of_getElem? hx'))) ht (by simp [hx]) h
      refine ⟨v', ?_, h2⟩
      simp only [resolve, hc, still_bind, still_pure, Option.bind_some, invoke, builtin, h1]
    · rename_i hc
      cases hp : (c.args.map ρ).toList.all plain0 with
      | false => rw [hp] at h; cases h
      | true =>
        simp only [hp, cond_true] at h
        have e : c.args.map ρ' = c.args.map ρ := by
          apply Array.toList_inj.1
          simpa using hargs.eq0 (by simpa using hp)
        obtain ⟨v', h1, h2⟩ := stillP_ok (μ := μ) h
        refine ⟨v', ?_, h2⟩
        simp only [resolve, hc, still_bind, still_pure, Option.bind_some, invoke, builtin, e, h1]
    · rename_i hc
      cases hp : (c.args.map ρ).toList.all plain0 with
      | false => rw [hp] at h; cases h
      | true =>
        simp only [hp, cond_true] at h
        have e : c.args.map ρ' = c.args.map ρ := by
          apply Array.toList_inj.1
          simpa using hargs.eq0 (by simpa using hp)
        obtain ⟨v', h1, h2⟩ := stillP_ok (μ := μ) h
        refine ⟨v', ?_, h2⟩
        simp only [resolve, hc, still_bind, still_pure, Option.bind_some, invoke, builtin, e, h1]

end
end Go.AI
