import Derived.Test.YtbggbjpobkkbaaaGreatDoorKc
import Derived.Test.YtbggbjpobkkbaaaGreatDoorKd
set_option linter.unusedVariables false
set_option linter.unusedSimpArgs false
set_option linter.constructorNameAsVariable false
namespace Go.AI
section
variable {P : Program} {μ : Mp}
theorem qW (t : TypeId) : aL P (typeInfo t) = P.info? t := by
 unfold typeInfo;simp only [bind, Sem.bind, program, aL];cases P.info? t <;> rfl
theorem aD (t : TypeId) : aL P (underlying t) = P.underlying t := by
 unfold underlying;simp only [bind, Sem.bind, program, aL];cases P.underlying t <;> rfl
theorem aO (t : TypeId) : aL P (Go.sizeOf t) = iJ P t := by
 unfold Go.sizeOf iJ;rw [aA, qW];cases P.info? t <;> rfl
theorem kK (t : TypeId) : aL P (isAgg t) = iG P t := by
 unfold isAgg iG;rw [aA, aD];cases h : P.underlying t with
 | none => rfl
 | some d => cases d <;> rfl
theorem fP {s : Sem Value} {v : Value} (h : aY P s = some v) : ∃ v', aL P s = some v' ∧ VR μ v v' := by
 unfold aY at h;split at h <;> try cases h
 rename_i u hu;cases hp : aU u with
 | false => simp [hp] at h
 | true => simp only [hp, cdt, ojE] at h; subst h; exact ⟨u, hu, .same1 hp⟩
theorem VRL.extract {xs us : Array Value} (r : VRL μ xs.toList us.toList) (i j : Nat) : VRL μ (xs.extract i j).toList (us.extract i j).toList := by
 simp only [Array.toList_extract, List.extract_eq_take_drop];exact (r.drop i).take (j - i)
theorem VRL.size {xs us : Array Value} (r : VRL μ xs.toList us.toList) : xs.size = us.size := by simpa using r.1
theorem aCc {t : TypeId} {cs us : Array Value} {off : Nat} {v : Value} (r : VRL μ cs.toList us.toList) (h : aC7 P t cs off = some v) : ∃ v', aL P (part t us off) = some v' ∧ VR μ v v' := by
 unfold aC7 at h;unfold part;rw [aA, kK];cases ha : iG P t with
 | none => simp [ha] at h
 | some b =>
  cases b with
  | true =>
   simp only [ha] at h;cases hs : iJ P t with
   | none => simp [hs] at h
   | some n =>
    simp only [hs, ojE] at h;subst h;refine ⟨.agg (us.extract off (off + n)), ?_, .mkAgg' (r.extract _ _)⟩;simp only [obS, if_true, aA, aO, hs, aB]
  | false =>
   simp only [ha] at h;obtain ⟨u, hu, hr⟩ := r.get (i := off) (x := v) (by simpa using h)
   refine ⟨u, ?_, hr⟩;have : us[off]? = some u := by simpa using hu
   simp [this, aB]
theorem aFd (place : Nat) : ∀ (c c' : List Value) (k : Nat) (A A' : Array Value), VRL μ c c' → VRL μ A.toList A'.toList →
    VRL μ ((c.zipIdx k).foldl (fun (cs : Array Value) x => cs.setIfInBounds (place + x.2) x.1) A).toList ((c'.zipIdx k).foldl (fun (cs : Array Value) x => cs.setIfInBounds (place + x.2) x.1) A').toList := by
 intro c;induction c with
 | nil => intro c' k A A' hc hA; rw [hc.nil_inv]; simpa using hA
 | cons x c ih =>
  intro c' k A A' hc hA;obtain ⟨u, c'', rfl, hx, hc'⟩ := hc.cons_inv;simp only [List.zipIdx_cons, List.foldl_cons];refine ih _ _ _ _ hc' ?_;simp only [Array.toList_setIfInBounds];exact hA.set hx _
def PR (μ : Mp) : List (Nat × Value) → List (Nat × Value) → Prop
 | [], [] => True
 | (i, x) :: xs, (j, u) :: us => i = j ∧ VR μ x u ∧ PR μ xs us
 | _, _ => False
theorem aAg (place : Nat → Option (Nat × Nat)) : ∀ (ps qs : List (Nat × Value)) (A A' : Array Value) (r : Array Value), PR μ ps qs → VRL μ A.toList A'.toList → Instr.fill place A ps = some r →
    ∃ r', Instr.fill place A' qs = some r' ∧ VRL μ r.toList r'.toList := by
 intro ps;induction ps with
 | nil =>
  intro qs A A' r hp hA h;cases qs with
  | nil => simp only [Instr.fill, ojE] at h; subst h; exact ⟨A', rfl, hA⟩
  | cons q qs => exact hp.elim
 | cons p ps ih =>
  intro qs A A' r hp hA h;obtain ⟨i, x⟩ := p;cases qs with
  | nil => exact hp.elim
  | cons q qs =>
   obtain ⟨j, u⟩ := q;obtain ⟨rfl, hx, hp'⟩ := hp;have hsz : u.cells.size = x.cells.size := (hx.cells.size).symm;have hsA : A'.size = A.size := hA.size.symm;simp only [Instr.fill] at h ⊢;cases hpl : place i with
   | none => simp [hpl] at h
   | some os =>
    obtain ⟨off, size⟩ := os;simp only [hpl] at h ⊢;rw [hsz, hsA];split at h
    ·cases h
    ·rename_i hn;rw [if_neg hn];refine ih _ _ _ _ hp' ?_ h;have := aFd (μ := μ) off x.cells.toList u.cells.toList 0 A A' hx.cells hA;rw [← Array.foldl_toList, ← Array.foldl_toList, Array.toList_zipIdx, Array.toList_zipIdx]; exact this
theorem PR_map {ρ ρ' : Operand → Value} (l : List (Nat × Operand)) (h : ∀ x ∈ l, VR μ (ρ x.2) (ρ' x.2)) : PR μ (l.map fun (i, x) => (i, ρ x)) (l.map fun (i, x) => (i, ρ' x)) := by
 induction l with
 | nil => trivial
 | cons x l ih => exact ⟨rfl, h x (by simp), ih fun y hy => h y (by simp [hy])⟩
theorem uS {ρ ρ' : Operand → Value} (l : List Operand) (h : ∀ x ∈ l, VR μ (ρ x) (ρ' x)) : VRL μ (l.map ρ) (l.map ρ') := by
 induction l with
 | nil => exact .nil
 | cons x l ih => exact .cons (h x (by simp)) (ih fun y hy => h y (by simp [hy]))
theorem aGc {t : TypeId} {ps qs : Array (Nat × Value)} {v : Value} (r : PR μ ps.toList qs.toList) (h : qN P t ps = some v) : ∃ v', aL P (Instr.build t qs) = some v' ∧ VR μ v v' := by
 unfold qN at h;cases hz : aL P (zeroValue t) with
 | none => simp [hz] at h
 | some z =>
  simp only [hz] at h;cases hp : z.cells.toList.all aC with
  | false => simp [hp] at h
  | true =>
   simp only [hp, cdt] at h;unfold Instr.build;simp only [aA, hz, obS, aD];cases hu : P.underlying t with
   | none => simp [hu] at h
   | some d =>
    simp only [hu] at h;cases d with
    | struct fs =>
     simp only at h;cases hm : aL P (fs.mapM fun f => do pure (f.offset, ← Go.sizeOf f.type)) with
     | none => rw [hm] at h; cases h
     | some places =>
      simp only [hm, mjE] at h;obtain ⟨cs, hf, rfl⟩ := h;obtain ⟨cs', hf', hr⟩ := aAg _ _ _ _ _ _ r (VRL.same hp) hf;refine ⟨.agg cs', ?_, .mkAgg' hr⟩;simp only [obS, aA, hm];rw [hf'];rfl
    | array n e =>
     simp only at h;cases hs : iJ P e with
     | none => simp [hs] at h
     | some s =>
      simp only [hs, mjE] at h;obtain ⟨cs, hf, rfl⟩ := h;obtain ⟨cs', hf', hr⟩ := aAg _ _ _ _ _ _ r (VRL.same hp) hf;refine ⟨.agg cs', ?_, .mkAgg' hr⟩;simp only [obS, aA, aO, hs];rw [hf'];rfl
    | _ => simp at h
theorem eW (id off n : Nat) : (Addr.mk id off none).add n = ⟨id, off + n, none⟩ := by
 unfold Addr.add; split
 ·rename_i h; subst h; rfl
 ·rfl
theorem VR.ptr_inv {id off : Nat} {u : Value} (r : VR μ (.pointer (some ⟨id, off, none⟩)) u) : ∃ p, μ id = some p ∧ u = .pointer (some ⟨p.b, p.o + off, none⟩) := by
 cases r with
 | same _ h => simp [aC] at h
 | ptr _ _ p h => exact ⟨p, h, rfl⟩
theorem VR.slc_inv {id off len c : Nat} {u : Value} (r : VR μ (.slice (some ⟨id, off, none⟩) len c) u) :
    ∃ p cap, μ id = some p ∧ u = .slice (some ⟨p.b, p.o + off, none⟩) len cap ∧ (c = len → cap = len) ∧ len ≤ cap ∧ p.o + off + cap * p.z ≤ p.e := by
 cases r with
 | same _ h => simp [aC] at h
 | slc _ _ _ _ cap p h hc hl he => exact ⟨p, cap, h, rfl, hc, hl, he⟩
theorem VR.nilslc_inv {len c : Nat} {u : Value} (r : VR μ (.slice none len c) u) : len = 0 ∧ c = 0 ∧ u = .slice none 0 0 := by
 cases r with
 | same _ h => simp only [aC, cN, bjE, djE] at h; obtain ⟨rfl, rfl⟩ := h; exact ⟨rfl, rfl, rfl⟩
theorem VR.int_inv {k : IntKind} {n : Int} {u : Value} (r : VR μ (.int k n) u) : u = .int k n := r.eq0 rfl
theorem VR.bool_inv {b : Bool} {u : Value} (r : VR μ (.bool b) u) : u = .bool b := r.eq0 rfl
theorem VR.string_inv {s : ByteArray} {u : Value} (r : VR μ (.string s) u) : u = .string s := r.eq0 rfl
theorem uO {s : TypeId} {a b v : Value} {f : Nat} (r : VR μ a b) (h : cL P s a f = some v) : ∃ v', aL P (Instr.fieldAt s b f) = some v' ∧ VR μ v v' := by
 unfold cL at h;unfold Instr.fieldAt;rw [aA, aD];split at h <;> try cases h
 rename_i fs hu;split at h <;> try cases h
 rename_i fd hf;split at h <;> try cases h
 rename_i n hn;split at h <;> try cases h
 rename_i id off;obtain ⟨p, hp, rfl⟩ := r.ptr_inv;rw [cN, Bool.cond_decide] at h;split at h
 ·cases h
 ·rename_i hn0;cases h;refine ⟨.pointer (some ⟨p.b, p.o + (off + fd.offset), none⟩), ?_, .ptr _ _ p hp⟩;simp only [hu, obS, hf, Instr.sureAddr, aA, aB, fieldPlace, aO, hn, if_neg hn0, eW, Nat.add_assoc]
theorem aF9 {t : TypeId} {a b v : Value} {f : Nat} (r : VR μ a b) (h : yA P t a f = some v) : ∃ v', aL P (Instr.field t b f) = some v' ∧ VR μ v v' := by
 unfold yA at h;unfold Instr.field;rw [aA, aD];split at h <;> try cases h
 rename_i fs hu;split at h <;> try cases h
 rename_i fd hf;split at h <;> try cases h
 obtain ⟨us, rfl, hl⟩ := r.agg_inv;obtain ⟨v', hv, hr⟩ := aCc hl h;refine ⟨v', ?_, hr⟩;simp only [hu, obS, hf, asAgg, aA, aB, hv]
theorem kV {i : Int} {n : Nat} : bH i n = true ↔ 0 ≤ i ∧ i < (n : Int) := by simp [bH]
theorem uN {t : TypeId} {a b i j v : Value} (r : VR μ a b) (ri : VR μ i j) (h : dU P t a i = some v) : ∃ v', aL P (Instr.indexAt t b j) = some v' ∧ VR μ v v' := by
 unfold dU at h;unfold Instr.indexAt;split at h <;> try cases h
 rename_i k n;obtain rfl := ri.int_inv;rw [aA];simp only [asIntOf, aB, obS];rw [aA, aD];split at h <;> try cases h
 ·rename_i e hu;split at h <;> try cases h
  rename_i id off len c;obtain ⟨p, cap, hp, rfl, _⟩ := r.slc_inv;split at h <;> try cases h
  rename_i z hz;cases hin : bH n len with
  | false => simp [hin] at h
  | true =>
   simp only [hin, cdt, ojE] at h;subst h;rw [kV] at hin;refine ⟨.pointer (some ⟨p.b, p.o + (off + n.toNat * z), none⟩), ?_, .ptr _ _ p hp⟩;simp only [hu, obS, aA, aB, aD, if_pos hin, aO, hz, eW, Nat.add_assoc]
 ·rename_i len e hu;split at h <;> try cases h
  rename_i id off;obtain ⟨p, hp, rfl⟩ := r.ptr_inv;split at h <;> try cases h
  rename_i z hz;cases hin : bH n len with
  | false => simp [hin] at h
  | true =>
   simp only [hin, cdt, ojE] at h;subst h;rw [kV] at hin;refine ⟨.pointer (some ⟨p.b, p.o + (off + n.toNat * z), none⟩), ?_, .ptr _ _ p hp⟩;simp only [hu, obS, aA, aB, aD, if_pos hin, aO, hz, eW, Nat.add_assoc, Instr.sureAddr]
theorem aF7 {t : TypeId} {a b i j v : Value} (r : VR μ a b) (ri : VR μ i j) (h : xZ P t a i = some v) : ∃ v', aL P (Instr.index t b j) = some v' ∧ VR μ v v' := by
 unfold xZ at h;split at h <;> try cases h
 ·rename_i hu;cases hp : (aC a && aC i) with
  | false => simp [hp] at h
  | true =>
   simp only [hp, cdt] at h;simp only [bjE] at hp;obtain rfl := r.eq0 hp.1;obtain rfl := ri.eq0 hp.2;exact fP h
 ·rename_i len e hu;split at h <;> try cases h
  rename_i k n cs;obtain rfl := ri.int_inv;obtain ⟨us, rfl, hl⟩ := r.agg_inv;split at h <;> try cases h
  rename_i z hz;cases hin : bH n len with
  | false => simp [hin] at h
  | true =>
   simp only [hin, cdt] at h;rw [kV] at hin;obtain ⟨v', hv, hr⟩ := aCc hl h;refine ⟨v', ?_, hr⟩;unfold Instr.index;simp only [asIntOf, aA, aB, obS, aD, hu, if_pos hin, aO, hz, hv]
theorem bP {n : Int} {k : IntKind} {y : Nat} {code : BoundsCode} (h0 : 0 ≤ n) (h1 : n ≤ (y : Int)) : aL P (Instr.sliceBound (.int k n) y code) = some n.toNat := by
 unfold Instr.sliceBound;simp only [asIntOf, aA, aB, obS];rw [if_pos ⟨h0, h1⟩]; rfl
theorem bV {a : Option Value} {l : Option Int} (h : iO a = some l) : (a = none ∧ l = none) ∨ ∃ k n, a = some (.int k n) ∧ l = some n := by
 unfold iO at h;split at h
 ·cases h; exact .inl ⟨rfl, rfl⟩
 ·rename_i k n; cases h; exact .inr ⟨k, n, rfl, rfl⟩
 ·cases h
def OR (μ : Mp) : Option Value → Option Value → Prop
 | none, none => True
 | some x, some u => VR μ x u
 | _, _ => False
theorem aGB {ρ ρ' : Operand → Value} (x : Option Operand) (h : ∀ y, x = some y → VR μ (ρ y) (ρ' y)) : OR μ (x.map ρ) (x.map ρ') := by
 cases x with
 | none => trivial
 | some y => exact h y rfl
theorem OR.int {a b : Option Value} {l : Option Int} (r : OR μ a b) (h : iO a = some l) : b = a := by
 rcases bV h with ⟨rfl, rfl⟩ | ⟨k, n, rfl, rfl⟩
 ·cases b with
  | none => rfl
  | some x => exact r.elim
 ·cases b with
  | none => exact r.elim
  | some x => rw [VR.int_inv r]
theorem OR.plain {a b : Option Value} (r : OR μ a b) (h : aC (a.getD (.bool true)) = true) : b = a := by
 cases a with
 | none => cases b with
  | none => rfl
  | some x => exact r.elim
 | some y => cases b with
  | none => exact r.elim
  | some x => rw [VR.eq0 r h]
theorem dM {lo hi mx : Option Value} {len cap : Nat} {l h m : Option Int} (hl : iO lo = some l) (hh : iO hi = some h) (hm : iO mx = some m)
    (hmh : m ≠ none → h ≠ none) (h0 : 0 ≤ l.getD 0) (h1 : l.getD 0 ≤ h.getD (len : Int)) (h2 : h.getD (len : Int) ≤ m.getD (cap : Int)) (h3 : m.getD (cap : Int) ≤ (cap : Int)) (h4 : len ≤ cap) :
    aL P (Instr.sliceBounds true len cap lo hi mx) = some ((l.getD 0).toNat, (h.getD (len : Int)).toNat, (m.getD (cap : Int)).toNat) := by
 unfold Instr.sliceBounds;rcases bV hm with ⟨rfl, rfl⟩ | ⟨km, nm, rfl, rfl⟩
 ·rcases bV hh with ⟨rfl, rfl⟩ | ⟨kh, nh, rfl, rfl⟩
  ·rcases bV hl with ⟨rfl, rfl⟩ | ⟨kl, nl, rfl, rfl⟩
   ·simp [aA, aB]
   ·simp only [Option.getD_none, Option.getD_some] at *;simp only [aA, aB, obS, bP h0 h1, Int.toNat_natCast]
  ·rcases bV hl with ⟨rfl, rfl⟩ | ⟨kl, nl, rfl, rfl⟩
   ·simp only [Option.getD_none, Option.getD_some] at *;simp only [aA, aB, obS, bP (show 0 ≤ nh by omega) h2, Int.toNat_natCast, Int.toNat_zero]
   ·simp only [Option.getD_none, Option.getD_some] at *;simp only [aA, aB, obS, bP (show 0 ≤ nh by omega) h2, Int.toNat_natCast]
    rw [bP h0 (by omega)]; rfl
 ·rcases bV hh with ⟨rfl, rfl⟩ | ⟨kh, nh, rfl, rfl⟩
  ·exact absurd rfl (hmh (by simp))
  ·rcases bV hl with ⟨rfl, rfl⟩ | ⟨kl, nl, rfl, rfl⟩
   ·simp only [Option.getD_none, Option.getD_some] at *;simp only [aA, aB, obS, bP (show 0 ≤ nm by omega) h3, Int.toNat_zero]
    rw [bP (show 0 ≤ nh by omega) (by omega)]; rfl
   ·simp only [Option.getD_none, Option.getD_some] at *;simp only [aA, aB, obS, bP (show 0 ≤ nm by omega) h3]
    rw [bP (show 0 ≤ nh by omega) (by omega)]
    simp only [obS];rw [bP h0 (by omega)]; rfl
theorem aF2 {σ : St} {t : TypeId} {a b v : Value} {lo hi mx lo' hi' mx' : Option Value} (hZ : ∀ id p z, μ id = some p → yW σ id z = true → p.z = z)
    (r : VR μ a b) (rl : OR μ lo lo') (rh : OR μ hi hi') (rm : OR μ mx mx') (h : nZ P σ t a lo hi mx = some v) :
    ∃ v', aL P (Instr.sliceAt t b lo' hi' mx') = some v' ∧ VR μ v v' := by
 unfold nZ at h;split at h <;> try cases h
 ·rename_i hu;split at h <;> try cases h
  rename_i s;obtain rfl := r.string_inv;cases hp : (mx.isNone && aC (lo.getD (.bool true)) && aC (hi.getD (.bool true))) with
  | false => simp [hp] at h
  | true =>
   simp only [hp, cdt] at h;simp only [bjE] at hp;obtain rfl := rl.plain hp.1.2;obtain rfl := rh.plain hp.2;have : mx = none := by simpa using hp.1.1
   subst this;obtain rfl : mx' = none := by cases mx' with | none => rfl | some x => exact rm.elim
   exact fP h
 ·rename_i e hu;split at h <;> try cases h
  rename_i base len c;split at h <;> try cases h
  rename_i z l hh m hz hl hhi hm;obtain rfl := rl.int hl;obtain rfl := rh.int hhi;obtain rfl := rm.int hm;simp only at h;cases hb : (decide (0 ≤ l.getD 0) && decide (l.getD 0 ≤ hh.getD (len : Int)) && decide (hh.getD (len : Int) ≤ (len : Int))) with
  | false => rw [hb] at h; cases h
  | true =>
   rw [hb] at h;simp only [bjE, djE] at hb;obtain ⟨⟨h0, h1⟩, h2⟩ := hb;simp only [cdt] at h;have hS : ∀ x, aL P (Instr.sliceAt t x lo' hi' mx') = aL P (Instr.slice t x lo' hi' mx') := by
    intro x; unfold Instr.sliceAt; rw [aA, aD, hu]; rfl
   rw [hS];by_cases hz0 : (Nat.beq len 0 && aCU m && hh.isSome) = true
   ·rw [hz0, cdt] at h;simp only [ojE] at h;subst h;simp only [bjE] at hz0;obtain ⟨⟨hz1, hz2⟩, hz3⟩ := hz0;have hl0 := nqE hz1;subst hl0;have hm0 : m = some 0 := by
     cases m with
     | none => cases hz2
     | some n => simp only [aCU, djE] at hz2; rw [hz2]
    subst hm0;have hn : hh ≠ none := by intro e; subst e; cases hz3
    have e1 : (l.getD 0).toNat = 0 := by simp only [Int.natCast_zero] at h2 h1; omega
    have e2 : (hh.getD ((0 : Nat) : Int)).toNat = 0 := by simp only [Int.natCast_zero] at h2 h1 ⊢; omega
    have hB := fun cap => dM (P := P) (len := 0) (cap := cap) hl hhi hm (fun _ => hn) h0 h1 (by simp only [Int.natCast_zero, Option.getD_some] at h2 ⊢; omega) (by simp) (Nat.zero_le _)
    cases base with
    | none =>
     obtain ⟨_, rfl, rfl⟩ := r.nilslc_inv;refine ⟨.slice none 0 0, ?_, .same _ rfl⟩;unfold Instr.slice;rw [aA, aD, hu];simp only [obS];rw [aA, hB 0];simp only [obS, aA, aO, hz, e1, e2, Option.getD_some, Int.toNat_zero, if_true, Nat.sub_self, aB]
    | some a =>
     obtain ⟨a', cap, rfl⟩ : ∃ a' cap, b = .slice (some a') 0 cap := by
      cases r with
      | same _ hp => simp [aC] at hp
      | slc => exact ⟨_, _, rfl⟩
      | emp => exact ⟨_, _, rfl⟩
     refine ⟨.slice (some a') 0 0, ?_, .emp _ 1 0 fun _ => rfl⟩
     unfold Instr.slice;rw [aA, aD, hu];simp only [obS];rw [aA, hB cap];simp only [obS, aA, aO, hz, e1, e2, Option.getD_some, Int.toNat_zero, if_true, Nat.sub_self, aB]
   rw [Bool.not_eq_true] at hz0;rw [hz0, cdf] at h;have hzero : ∀ a' cap, len = 0 → mx' = none → aL P (Instr.slice t (.slice (some a') len cap) lo' hi' mx') = some (.slice (some a') len cap) := by
    rintro a' cap rfl rfl;unfold Instr.slice;rw [aA, aD, hu];simp only [obS];rcases bV hm with ⟨_, rfl⟩ | ⟨_, _, e, _⟩
    ·have hB := dM (P := P) (len := 0) (cap := cap) hl hhi hm (by simp) h0 h1 (by simp only [Option.getD_none, Int.natCast_zero] at h2 ⊢; omega) (by simp) (Nat.zero_le _)
     simp only [Option.getD_none] at hB;rw [aA, hB];have e1 : (l.getD 0).toNat = 0 := by simp only [Int.natCast_zero] at h2 h1; omega
     have e2 : (hh.getD ((0 : Nat) : Int)).toNat = 0 := by simp only [Int.natCast_zero] at h2 h1 ⊢; omega
     simp only [obS, aA, aO, hz, e1, e2, Int.toNat_natCast, Nat.sub_self, Nat.sub_zero, aB, Nat.zero_mul];split
     ·rfl
     ·simp only [omS, Addr.add, if_true]
    ·cases e
   by_cases hsp : ∃ x y s, base = some ⟨x, y, some s⟩
   ·obtain ⟨x, y, s, rfl⟩ := hsp;simp only at h;cases hc0 : (Nat.beq len 0 && mx'.isNone) with
    | false => rw [hc0] at h; cases h
    | true =>
     rw [hc0] at h;simp only [cdt, ojE] at h;subst h;simp only [bjE] at hc0;have hl0 := nqE hc0.1;have hmn : mx' = none := by simpa using hc0.2
     cases r with
     | same _ hp => simp [aC] at hp
     | emp a' _ cap hs => exact ⟨_, hzero a' cap rfl hmn, .emp a' _ cap hs⟩
   by_cases hrz0 : ∃ id off, base = some ⟨id, off, none⟩ ∧ yW σ id z = false
   ·obtain ⟨id, off, rfl, hrz⟩ := hrz0;simp only [hrz, cdf] at h;cases hc0 : (Nat.beq len 0 && mx'.isNone) with
    | false => rw [hc0] at h; cases h
    | true =>
     rw [hc0] at h;simp only [cdt, ojE] at h;subst h;simp only [bjE] at hc0;have hl0 := nqE hc0.1;have hmn : mx' = none := by simpa using hc0.2
     obtain ⟨p, cap, hp, rfl, hc, hlc, he⟩ := r.slc_inv;exact ⟨_, hzero _ cap hl0 hmn, r⟩
   unfold Instr.slice;rw [aA, aD, hu];simp only [obS];split at h
   ·
    obtain ⟨rfl, rfl, rfl⟩ := r.nilslc_inv;cases hmx : mx'.isNone with
    | false => simp [hmx] at h
    | true =>
     simp only [hmx, cdt, ojE] at h;subst h;have : mx' = none := by simpa using hmx
     subst this;rcases bV hm with ⟨_, rfl⟩ | ⟨_, _, e, _⟩
     ·have hB := dM (P := P) (len := 0) (cap := 0) hl hhi hm (by simp) h0 h1 (by simpa using h2) (by simp) (nlR _)
      refine ⟨.slice none 0 0, ?_, .same _ rfl⟩;simp only [Option.getD_none] at hB;rw [aA, hB];have e1 : (l.getD 0).toNat = 0 := by simp only [Int.natCast_zero] at h2 h1; omega
      have e2 : (hh.getD ((0 : Nat) : Int)).toNat = 0 := by simp only [Int.natCast_zero] at h2 h1 ⊢; omega
      simp only [obS, aA, aO, hz, e1, e2, Int.toNat_natCast, if_true, Nat.sub_self, aB]
     ·cases e
   ·rename_i id off;obtain ⟨p, cap, hp, rfl, hc, hlc, he⟩ := r.slc_inv;cases hrz : yW σ id z with
    | false => exact absurd ⟨id, off, rfl, hrz⟩ hrz0
    | true =>
    rw [hrz] at h;simp only [cdt] at h;have hpz := hZ id p z hp hrz;generalize hL : (l.getD 0).toNat = L at *;generalize hH : (hh.getD (len : Int)).toNat = H at *;have hLH : L ≤ H := by omega
    have hHl : H ≤ len := by omega
    have hmul : p.o + (off + L * z) + (cap - L) * p.z ≤ p.e := by
     have : (cap - L) * p.z = cap * p.z - L * p.z := Nat.sub_mul _ _ _;have h' : L * p.z ≤ cap * p.z := Nat.mul_le_mul_right _ (by omega)
     rw [← hpz]; omega
    split at h
    ·
     rename_i hmn;rcases bV hm with ⟨rfl, _⟩ | ⟨_, _, _, e⟩
     ·have hB := dM (P := P) (len := len) (cap := cap) hl hhi hm (by simp) h0 h1 (by simp; omega) (by simp) hlc
      simp only [Option.getD_none, Int.toNat_natCast, hL, hH] at hB;simp only;rw [aA, hB];simp only [obS, aA, aO, hz, aB];refine ⟨_, rfl, ?_⟩;simp only [cN, Bool.cond_decide, ← Bool.decide_and] at h;split at h
      ·rename_i hcl;obtain ⟨hcl, hhl⟩ := hcl;have hcap := hc hcl;subst hcap;split at h
       ·rename_i hll;cases h;rw [if_pos hll.symm, hhl, hll, Nat.sub_self];exact .slc id off 0 0 0 p hp (fun _ => rfl) (nlR _) (by simp; have := Nat.zero_le (cap * p.z); omega)
       ·rename_i hll;cases h;rw [if_neg (by omega), hhl]
        simp only [omS, eW, Nat.add_assoc];exact .slc id (off + L * z) (cap - L) (cap - L) (cap - L) p hp (fun _ => rfl) (nlR _) hmul
      ·split at h
       ·rename_i hcl hhl;cases h;obtain ⟨hhl, hl0⟩ := hhl;have : ¬ cap = L ∨ cap = 0 := by omega
        subst hhl; subst hl0;have e3 : (if cap = 0 then some (Addr.mk p.b (p.o + off) none) else Option.map (fun x => x.add (0 * z)) (some (Addr.mk p.b (p.o + off) none))) = some (Addr.mk p.b (p.o + off) none) := by
         split
         ·rfl
         ·simp [eW]
        rw [e3];exact .slc id off _ c cap p hp hc hlc he
       ·split at h
        ·rename_i hll;cases h;rw [if_neg (by omega)]
         simp only [omS, eW, Nat.add_assoc];exact .slc id (off + L * z) (H - L) (H - L + 1) (cap - L) p hp (fun e => by omega) (by omega) hmul
        ·cases h;rw [show H - L = 0 by omega]
         split
         ·exact .emp _ 0 _ (fun h => by cases h)
         ·simp only [omS]; exact .emp _ 0 _ (fun h => by cases h)
     ·cases e
    ·rename_i m';rcases bV hm with ⟨_, e⟩ | ⟨km, nm, rfl, e⟩
     ·cases e
     ·cases e;cases hd : (decide (hh.getD (len : Int) = m') && decide (l.getD 0 < m') && hh.isSome) with
      | false => rw [hd] at h; cases h
      | true =>
       rw [hd] at h;simp only [bjE, djE] at hd;obtain ⟨⟨hd1, hd2⟩, hd3⟩ := hd;simp only [cdt, ojE] at h;subst h;have hn : hh ≠ none := by intro e; subst e; cases hd3
       have hB := dM (P := P) (len := len) (cap := cap) hl hhi hm (fun _ => hn) h0 h1 (by simp; omega) (by simp; omega) hlc
       simp only [Option.getD_some, hL, hH] at hB;simp only;rw [aA, hB];simp only [obS, aA, aO, hz, aB];refine ⟨_, rfl, ?_⟩;have hm' : m'.toNat = H := by omega
       rw [hm', if_neg (by omega)]
       simp only [omS, eW, Nat.add_assoc];have hm2 : p.o + (off + L * z) + (H - L) * p.z ≤ p.e := by
        have : (H - L) * p.z ≤ (cap - L) * p.z := Nat.mul_le_mul_right _ (by omega)
        omega
       exact .slc id (off + L * z) (H - L) (H - L) (H - L) p hp (fun _ => rfl) (nlR _) hm2
   ·exact absurd ⟨_, _, _, rfl⟩ hsp
theorem alen_ok {t : TypeId} {a b v : Value} {ts : Array TypeId} {ty : TypeId} {us : Array Value} (r : VR μ a b) (ht : ts[0]? = some t) (hb : us[0]? = some b) (h : alen P t a = some v) :
    ∃ v', aL P (Builtin.len_ ts ty us) = some v' ∧ VR μ v v' := by
 unfold alen at h;unfold Builtin.len_;simp only [ht, hb];rw [aA, aD];split at h <;> try cases h
 ·rename_i e hu;split at h <;> try cases h
  rename_i base n c;have : ∃ base' cap, b = .slice base' n cap := by
   cases base with
   | none => obtain ⟨rfl, rfl, rfl⟩ := r.nilslc_inv; exact ⟨none, 0, rfl⟩
   | some a =>
    cases r with
    | same _ h => simp [aC] at h
    | slc id off len c cap p h hc hl he => exact ⟨_, _, rfl⟩
    | emp a s cap h => exact ⟨_, _, rfl⟩
  obtain ⟨base', cap, rfl⟩ := this;exact ⟨goInt n, by simp [hu, aB], .same _ rfl⟩
 ·rename_i hu;split at h <;> try cases h
  rename_i s;obtain rfl := r.string_inv;exact ⟨goInt s.size, by simp [hu, aB], .same _ rfl⟩
 ·rename_i n e hu;exact ⟨goInt n, by simp [hu, aB], .same _ rfl⟩
theorem wQ {t e : TypeId} (ht : P.underlying t = some (.slice e)) (a : Addr) (l c l' c' : Nat) : aL P (Op.equal t (.slice (some a) l c) (.slice none l' c')) = some false := by
 unfold Op.equal;rw [show Op.maxDepth = Nat.succ 9999 from rfl, Op.equalIn.eq_2, aA, aD, ht]; rfl
theorem wR {t e : TypeId} (ht : P.underlying t = some (.slice e)) (a : Addr) (l c l' c' : Nat) : aL P (Op.equal t (.slice none l' c') (.slice (some a) l c)) = some false := by
 unfold Op.equal;rw [show Op.maxDepth = Nat.succ 9999 from rfl, Op.equalIn.eq_2, aA, aD, ht]; rfl
theorem anil_ok {op : BinOp} {t : TypeId} {a b c d v : Value} {x y : Operand} (r : VR μ a b) (s : VR μ c d) (ht : ∃ e, P.underlying t = some (.slice e)) (h : anil op a c = some v) :
    ∃ v', aL P (do eqGuard op t x y b d; binOp op t b d) = some v' ∧ VR μ v v' := by
 obtain ⟨e, ht⟩ := ht;unfold anil at h;simp only at h;split at h
 ·rename_i a0 l c l' c';obtain ⟨rfl, rfl, rfl⟩ := s.nilslc_inv;have : ∃ a1 l1 c1, b = .slice (some a1) l1 c1 := by
   cases r with
   | same _ h => simp [aC] at h
   | slc id off len c cap p h hc hl he => exact ⟨_, _, _, rfl⟩
   | emp a s cap h => exact ⟨_, _, _, rfl⟩
  obtain ⟨a1, l1, c1, rfl⟩ := this;cases op <;> simp only at h <;> first
   | (cases h; refine ⟨_, ?_, .same _ rfl⟩; simp only [aA, eqGuard, bnT, Bool.false_eq_true, if_false, aB, obS, binOp, wQ ht]; done)
   | cases h
 ·rename_i l c a0 l' c';obtain ⟨rfl, rfl, rfl⟩ := r.nilslc_inv;have : ∃ a1 l1 c1, d = .slice (some a1) l1 c1 := by
   cases s with
   | same _ h => simp [aC] at h
   | slc id off len c cap p h hc hl he => exact ⟨_, _, _, rfl⟩
   | emp a s cap h => exact ⟨_, _, _, rfl⟩
  obtain ⟨a1, l1, c1, rfl⟩ := this;cases op <;> simp only at h <;> first
   | (cases h; refine ⟨_, ?_, .same _ rfl⟩; simp only [aA, eqGuard, bnT, Bool.false_eq_true, if_false, aB, obS, binOp, wR ht]; done)
   | cases h
 ·cases h
theorem dB (c : Call) : ∀ x ∈ c.args.toList, x ∈ (Op.call c).operands := by
 intro x hx;simp only [Op.operands, Call.operands];exact Array.mem_append.2 (.inr (Array.mem_toList_iff.1 hx))
theorem oZ {ρ ρ' : Operand → Value} {o : Oper} {v : Value} (hρ : ∀ x ∈ o.op.operands, VR μ (ρ x) (ρ' x)) (h : dL P ρ o = some v) :
    ∃ v', aL P (execOp ρ' o) = some (.value v') ∧ VR μ v v' := by
 have fin : ∀ {s : Sem Value}, (∃ v', aL P s = some v' ∧ VR μ v v') → ∃ v', aL P (do pure (Next.value (← s))) = some (.value v') ∧ VR μ v v' := by
  rintro s ⟨v', h1, h2⟩;exact ⟨v', by rw [aA, h1]; rfl, h2⟩
 unfold dL at h;unfold execOp;cases ho : o.op <;> simp only [ho] at h hρ ⊢ <;> try cases h
 case move x => exact ⟨_, rfl, hρ x (by simp [Op.operands])⟩
 case assign x => exact ⟨_, rfl, hρ x (by simp [Op.operands])⟩
 case pick c a b =>
  have hc := hρ c (by simp [Op.operands])
  split at h <;> try cases h
  ·rename_i hb;rw [hb] at hc;rw [hc.bool_inv];exact ⟨_, rfl, hρ a (by simp [Op.operands])⟩
  ·rename_i hb;rw [hb] at hc;rw [hc.bool_inv];exact ⟨_, rfl, hρ b (by simp [Op.operands])⟩
 case build t parts =>
  refine fin (aGc ?_ h);simpa using PR_map parts.toList (fun x hx => hρ x.2 (by simp [Op.operands]; exact ⟨_, Array.mem_toList_iff.1 hx⟩))
 case nilCheck x =>
  have hx := hρ x (by simp [Op.operands])
  split at h <;> try cases h
  rename_i a ha;rw [ha] at hx;generalize ρ' x = u at hx ⊢;cases hx with
  | same _ h => simp [aC] at h
  | ptr id off p hp => exact ⟨_, rfl, .ptr id off p hp⟩
 case binOp op t x y yt =>
  have hx := hρ x (by simp [Op.operands])
  have hy := hρ y (by simp [Op.operands])
  cases hp : (aU (ρ x) && aU (ρ y)) with
  | true =>
   simp only [hp, cdt] at h;simp only [bjE] at hp;rw [hx.eq1 hp.1, hy.eq1 hp.2];exact fin (fP h)
  | false =>
   simp only [hp, cdf] at h;split at h <;> try cases h
   rename_i e hu;exact fin (anil_ok hx hy ⟨e, hu⟩ h)
 case unOp op t x =>
  have hx := hρ x (by simp [Op.operands])
  cases hp : aC (ρ x) with
  | true => simp only [hp, cdt] at h; rw [hx.eq0 hp]; exact fin (fP h)
  | false => simp [hp] at h
 case convert s d x =>
  have hx := hρ x (by simp [Op.operands])
  cases hp : aC (ρ x) with
  | true => simp only [hp, cdt] at h; rw [hx.eq0 hp]; exact fin (fP h)
  | false => simp [hp] at h
 case makeFunc fn first captured =>
  refine ⟨.func fn (first.map ρ') (captured.map ρ'), rfl, ?_⟩
  have h1 := uS (μ := μ) (ρ := ρ) (ρ' := ρ') first.toList (fun x hx => hρ x (by simp [Op.operands]; exact .inl (Array.mem_toList_iff.1 hx)))
  have h2 := uS (μ := μ) (ρ := ρ) (ρ' := ρ') captured.toList (fun x hx => hρ x (by simp [Op.operands]; exact .inr (Array.mem_toList_iff.1 hx)))
  exact .fn fn _ _ _ _ (by simp) (by simpa using h1.2) (by simp) (by simpa using h2.2)
 case fieldAddr s x f => exact fin (uO (hρ x (by simp [Op.operands])) h)
 case field t x f => exact fin (aF9 (hρ x (by simp [Op.operands])) h)
 case indexAddr t x i => exact fin (uN (hρ x (by simp [Op.operands])) (hρ i (by simp [Op.operands])) h)
 case index t x i => exact fin (aF7 (hρ x (by simp [Op.operands])) (hρ i (by simp [Op.operands])) h)
 case extract t i =>
  have hx := hρ t (by simp [Op.operands])
  split at h <;> try cases h
  rename_i vs hvs;rw [hvs] at hx;obtain ⟨us, he, hl⟩ := hx.tuple_inv;rw [he];obtain ⟨u, hu, hr⟩ := hl.get (i := i) (x := v) (by simpa using h)
  refine fin ⟨u, ?_, hr⟩;have : us[i]? = some u := by simpa using hu
  simp [Instr.extract, this, aB]
 case call c =>
  unfold gQ at h;have hargs := uS (μ := μ) (ρ := ρ) (ρ' := ρ') c.args.toList (fun x hx => hρ x (dB c x hx))
  split at h <;> try cases h
  ·rename_i hc;split at h <;> try cases h
   rename_i t x ht hx;have hx' : c.args.toList[0]? = some x := by simpa using hx
   obtain ⟨v', h1, h2⟩ := alen_ok (P := P) (ts := c.argTypes) (ty := o.type) (us := c.args.map ρ') (hρ x (dB c x (List.mem_of_getElem? hx'))) ht (by simp [hx]) h
   refine ⟨v', ?_, h2⟩;simp only [resolve, hc, aA, aB, obS, invoke, builtin, h1]
  ·rename_i hc;cases hp : (c.args.map ρ).toList.all aC with
   | false => rw [hp] at h; cases h
   | true =>
    simp only [hp, cdt] at h;have e : c.args.map ρ' = c.args.map ρ := by
     apply Array.toList_inj.1;simpa using hargs.eq0 (by simpa using hp)
    obtain ⟨v', h1, h2⟩ := fP (μ := μ) h;refine ⟨v', ?_, h2⟩;simp only [resolve, hc, aA, aB, obS, invoke, builtin, e, h1]
  ·rename_i hc;cases hp : (c.args.map ρ).toList.all aC with
   | false => rw [hp] at h; cases h
   | true =>
    simp only [hp, cdt] at h;have e : c.args.map ρ' = c.args.map ρ := by
     apply Array.toList_inj.1;simpa using hargs.eq0 (by simpa using hp)
    obtain ⟨v', h1, h2⟩ := fP (μ := μ) h;refine ⟨v', ?_, h2⟩;simp only [resolve, hc, aA, aB, obS, invoke, builtin, e, h1]
end
end Go.AI
namespace Go.PI
open Go.AI
structure Dp (p p' : PSt) : Prop where
 next : p.next ≤ p'.next
 dirty : ∀ id, id ∈ p.dirty → id ∈ p'.dirty
 wr : ∀ id, id ∈ p.wr → id ∈ p'.wr
 mem : ∀ k, k < p.next → k ∉ p'.dirty → p'.mem.get k = p.mem.get k
theorem Dp.refl (p : PSt) : Dp p p := ⟨nlR _, fun _ h => h, fun _ h => h, fun _ _ _ => rfl⟩
theorem Dp.trans {p p' p'' : PSt} (h : Dp p p') (h' : Dp p' p'') : Dp p p'' :=
 ⟨Nat.le_trans h.next h'.next, fun id hi => h'.dirty id (h.dirty id hi), fun id hi => h'.wr id (h.wr id hi), fun k hk hd => (h'.mem k (Nat.lt_of_lt_of_le hk h.next) hd).trans (h.mem k hk fun hh => hd (h'.dirty k hh))⟩
theorem gH {id : Nat} {l : List Nat} {k : Nat} : k ∈ ins id l ↔ k = id ∨ k ∈ l := by
 unfold ins;cases h : l.contains id with
 | true =>
  simp only [cdt];constructor
  ·exact .inr
  ·rintro (rfl | h')
   ·simpa using h
   ·exact h'
 | false => simp [cdf]
theorem Dp.upd (p : PSt) (id : Nat) (o : lF) : Dp p (p.upd id o) :=
 ⟨nlR _, fun k hk => gH.2 (.inr hk), fun k hk => gH.2 (.inr hk), fun k _ hd => by
  simp only [PSt.upd, Tr.get_set];rw [if_neg (fun e => hd (gH.2 (.inl e)))]⟩
theorem Dp.mark (p : PSt) (id : Nat) (o : lF) : Dp p (p.mark id o) :=
 ⟨nlR _, fun k hk => gH.2 (.inr hk), fun k hk => hk, fun k _ hd => by
  simp only [PSt.mark, Tr.get_set];rw [if_neg (fun e => hd (gH.2 (.inl e)))]⟩
structure Adv (ν : Nu) (γ : Ga) (p : PSt) (σ : St) (ν' : Nu) (γ' : Ga) (p' : PSt) (σ' : St) : Prop where
 keep : Keep ν γ σ σ'
 mon : Mon σ ν ν'
 out : GoOut σ γ γ'
 dp : Dp p p'
 rz : ∀ a cs m, σ.get a = some (.cells cs m) → ∃ cs' b, σ'.get a = some (.cells cs' { m with tip := b })
 bx : ∀ id a, ν id = some (some a) → id ∉ p'.wr → σ'.get a = σ.get a ∧ ν' id = some (some a)
theorem Adv.refl (ν : Nu) (γ : Ga) (p : PSt) (σ : St) : Adv ν γ p σ ν γ p σ := ⟨.refl ν γ σ, .refl σ ν, .refl σ γ, .refl p, fun a cs m h => ⟨cs, m.tip, h⟩, fun _ _ h _ => ⟨rfl, h⟩⟩
theorem Adv.trans {ν ν' ν'' : Nu} {γ γ' γ'' : Ga} {p p' p'' : PSt} {σ σ' σ'' : St} (h : Adv ν γ p σ ν' γ' p' σ') (h' : Adv ν' γ' p' σ' ν'' γ'' p'' σ'') : Adv ν γ p σ ν'' γ'' p'' σ'' :=
 ⟨h.keep.trans h.mon h'.keep h.out, h.mon.trans h'.mon h.keep.dom, h.out.trans h'.out h.keep.dom, h.dp.trans h'.dp, fun a cs m e => by
  obtain ⟨cs', b, h1⟩ := h.rz a cs m e;obtain ⟨cs'', b', h2⟩ := h'.rz a cs' _ h1;exact ⟨cs'', b', h2⟩, fun id a hi hd => by
  obtain ⟨e1, e2⟩ := h.bx id a hi fun hh => hd (h'.dp.wr id hh)
  obtain ⟨e3, e4⟩ := h'.bx id a e2 hd;exact ⟨e3.trans e1, e4⟩⟩
theorem Adv.g {ν : Nu} {γ γ' : Ga} {p : PSt} {σ : St} (g : GoOut σ γ γ') : Adv ν γ p σ ν γ' p σ := ⟨.refl ν γ σ, .refl σ ν, g, .refl p, fun a cs m h => ⟨cs, m.tip, h⟩, fun _ _ h _ => ⟨rfl, h⟩⟩
def jM (pc : gK) (ac : FuncId → Array Value → St → Option (Value × St)) : Prop :=
 ∀ g args p v own p', pc g args p = some (v, own, p') → ∀ (ν : Nu) (γ : Ga) (σ : St) (us : Array Value), Mem ν γ p σ → RL ν σ (args.map (·.1)) us.toList →
  (∀ (i : Nat) (x : PV) (w : Value), args[i]? = some (x, true) → us.toList[i]? = some w → Ow ν γ σ (.slot i) x w) →
  ∃ u σ' ν' γ', ac g us σ = some (u, σ') ∧ R ν' σ' v u ∧ (own = true → Ow ν' γ' σ' .hand v u) ∧ Mem ν' γ' p' σ' ∧ Adv ν γ p σ ν' γ' p' σ' ∧ ∀ j, j < σ.next → σ.get j = none → σ'.get j = none
section
variable {P : Program} {ν ν' : Nu} {γ γ1 γ' : Ga} {σ σ' : St} {S : PS} {A : Slots}
theorem Mem.some_get {p : PSt} (M : Mem ν γ p σ) {id a : Nat} (h : ν id = some (some a)) : σ.get a ≠ none := by
 obtain ⟨o, ho⟩ := M.live id a h;have := M.get id o ho;cases o with
 | box cs => obtain ⟨a', us, h1, h2, _⟩ := this; rw [h] at h1; simp only [ojE] at h1; subst h1; rw [h2]; simp
 | row z ag cs => obtain ⟨a', us, h1, h2, _⟩ := this; rw [h] at h1; simp only [ojE] at h1; subst h1; rw [h2]; simp
 | map es => exact this.elim
 | gone => simp only [ObjR] at this; rw [h] at this; cases this
theorem Mem.no_tip {p : PSt} (M : Mem ν γ p σ) {id a : Nat} (h : ν id = some (some a)) {cs : List Value} {m : Mta} (hg : σ.get a = some (.cells cs m)) : m.tip = false := by
 obtain ⟨o, ho⟩ := M.live id a h;have := M.get id o ho;cases o with
 | box cs' => obtain ⟨a', us, h1, h2, _⟩ := this; rw [h] at h1; simp only [ojE] at h1; subst h1; rw [h2] at hg; simp only [ojE, AObj.cells.injEq] at hg; obtain ⟨_, rfl⟩ := hg; rfl
 | row z ag cs' => obtain ⟨a', us, h1, h2, _⟩ := this; rw [h] at h1; simp only [ojE] at h1; subst h1; rw [h2] at hg; simp only [ojE, AObj.cells.injEq] at hg; obtain ⟨_, rfl⟩ := hg; rfl
 | map es => exact this.elim
 | gone => simp only [ObjR] at this; rw [h] at this; cases this
theorem rz_put {id : Nat} {o : AObj} (hf : σ.get id = none) : ∀ a cs m, σ.get a = some (.cells cs m) → ∃ cs' b, (σ.put id o).get a = some (.cells cs' { m with tip := b }) :=
 fun a cs m h => ⟨cs, m.tip, by rw [aF, if_neg (fun e => by rw [e, hf] at h; cases h)]; exact h⟩
def tP (γ : Ga) : Ga := fun i => match γ i with
 | some (.cell id off) => some (.cell id off)
 | some (.arg i) => some (.slot i)
 | some _ => some .out
 | none => none
def after (σ : St) (γ γ' : Ga) : Ga := fun i => match γ i with
 | some (.cell _ _) => γ' i
 | some (.arg _) => γ' i
 | none => γ' i
 | some k => if (σ.get i).isNone = true then γ' i else some k
theorem aDb {i t : Nat} (h : γ i = some (.slot t)) (hn : σ.get i ≠ none) : after σ γ γ' i = some (.slot t) := by cases e : σ.get i with
 | none => exact absurd e hn
 | some o => simp [after, h, e]
theorem aF8 {i : Nat} (h : γ i = some .out) (hn : σ.get i ≠ none) : after σ γ γ' i = some .out := by cases e : σ.get i with
 | none => exact absurd e hn
 | some o => simp [after, h, e]
theorem aCg {i : Nat} {k : K} (h : γ' i = some k) (hk : k ≠ .out) (hg : GoOut σ (tP γ) γ') : after σ γ γ' i = some k := by
 unfold after;split
 ·exact h
 ·exact h
 ·exact h
 ·rename_i k' hne hne2 hk';split
  ·exact h
  ·rename_i hn;have : tP γ i = some .out := by
    unfold tP;rw [hk'];cases k' <;> first | rfl | exact absurd rfl (hne _ _) | exact absurd rfl (hne2 _)
   rw [hg i (fun e => hn (by rw [e]; rfl)) this] at h
   simp only [ojE] at h;exact absurd h.symm hk
theorem call_ok {pc : gK} {ac : FuncId → Array Value → St → Option (Value × St)} (hcall : jM pc ac) {p p' : PSt} (M : Mem ν γ p σ) (F : FR ν γ σ S A) {g : Nat} {args : List (PV × Bool)} {us : Array Value} (hr : RL ν σ (args.map (·.1)) us.toList)
    (hown : ∀ (i : Nat) (x : PV) (w : Value), args[i]? = some (x, true) → us.toList[i]? = some w → Ow ν γ σ (.arg i) x w) {v : PV} {own : Bool} (h : pc g args p = some (v, own, p')) :
    ∃ u σ' ν' γ', ac g us σ = some (u, σ') ∧ R ν' σ' v u ∧ Mem ν' γ' p' σ' ∧ FR ν' γ' σ' S A ∧ (own = true → Ow ν' γ' σ' .hand v u) ∧ Adv ν γ p σ ν' γ' p' σ' ∧ ∀ j, j < σ.next → σ.get j = none → σ'.get j = none := by
 have Mc : Mem ν (tP γ) p σ := ⟨M.le, M.lt, M.inj, M.live, fun id o ho => (M.get id o ho).g2 fun i off hi => by simp only [tP, hi], M.free, M.ver⟩
 obtain ⟨u, σ', ν', γ', h1, h2, h3, h4, h5, h6⟩ := hcall g args p v own p' h ν (tP γ) σ us Mc hr (fun i x w hx hw => (hown i x w hx hw).weak fun j hj => by simp only [tP, hj])
 refine ⟨u, σ', ν', after σ γ γ', h1, h2, ?_, ?_, fun ho => (h3 ho).weak fun i hi => aCg hi (by simp) h5.out, ⟨?_, h5.mon, ?_, h5.dp, h5.rz, h5.bx⟩, h6⟩
 ·exact ⟨h4.le, h4.lt, h4.inj, h4.live, fun id o ho => (h4.get id o ho).g2 fun i off hi => aCg hi (by simp) h5.out, h4.free, h4.ver⟩
 ·exact F.keep h5.keep h5.mon fun i t hi hn => ⟨by simp only [tP, hi], aDb hi hn⟩
 ·exact h5.keep.weak fun a ha => by simp only [tP, ha]
 ·exact fun i hn hi => aF8 hi hn
theorem zM {es : List PV} {bs : List UInt8} (h : eV es = some bs) {us : List Value} (r : RL ν σ es us) : ∃ ns : List Int, us = ns.map (Value.int .u8) ∧ bs = ns.map (fun n => UInt8.ofNat n.toNat) ∧ AI.bytesOf us = some ns := by
 induction es generalizing bs us with
 | nil => simp only [eV, ojE] at h; subst h; have := r.nil_inv; subst this; exact ⟨[], rfl, rfl, rfl⟩
 | cons x es ih =>
  unfold eV at h;split at h
  ·cases ‹_ :: _ = []›
  ·rename_i n rr e;cases e;rw [mjE] at h;obtain ⟨bs', h1, rfl⟩ := h;obtain ⟨u, us', rfl, hx, hr⟩ := r.cons_inv;cases hx;obtain ⟨ns, rfl, rfl, h4⟩ := ih h1 hr;exact ⟨n :: ns, rfl, rfl, by simp only [AI.bytesOf, h4]; rfl⟩
  ·cases h
theorem tN {es : List PV} {bs : List UInt8} (h : eV es = some bs) : eE es = es := by
 induction es generalizing bs with
 | nil => rfl
 | cons x es ih =>
  unfold eV at h;split at h
  ·cases ‹_ :: _ = []›
  ·rename_i n rr e;cases e;rw [mjE] at h;obtain ⟨bs', h1, _⟩ := h;have := ih h1;simp only [eE, fmC, PV.cells] at this ⊢;rw [this]; rfl
  ·cases h
theorem aE6 (ns : List Int) (b : ByteArray) : (ns.foldl (fun r n => r.push (UInt8.ofNat n.toNat)) b).data.toList = b.data.toList ++ ns.map (fun n => UInt8.ofNat n.toNat) := by
 induction ns generalizing b with
 | nil => simp
 | cons n ns ih => simp only [List.foldl_cons, ih, mpC]; simp [ByteArray.push]
theorem aEu {s d : TypeId} {x v : PV} {u : Value} (r : R ν σ x u) (h : rX P s d x = some v) :
    ∃ w, (match (bif aC u then aY P (convert s d u) else none) with | some y => some y | none => mI P σ s d u) = some w ∧ R ν σ v w := by
 unfold rX at h;split at h <;> try cases h
 rename_i e hs hd;split at h <;> try cases h
 rename_i he;split at h <;> try cases h
 rename_i es hes;rw [mjE] at h;obtain ⟨bs, hb, rfl⟩ := h;have hstr : ∀ ns : List Int, bs = ns.map (fun n => UInt8.ofNat n.toNat) → R ν σ (.str bs) (.string (ns.foldl (fun r n => r.push (UInt8.ofNat n.toNat)) ByteArray.empty)) := by
  intro ns hn;have := R.str (ν := ν) (σ := σ) (ns.foldl (fun r n => r.push (UInt8.ofNat n.toNat)) ByteArray.empty)
  rw [aE6] at this;rw [hn]; simpa using this
 have hnil : ∃ w, (match (bif aC (.slice none 0 0) then aY P (convert s d (.slice none 0 0)) else none) with | some y => some y | none => mI P σ s d (.slice none 0 0)) = some w ∧ R ν σ (.str []) w := by
  refine ⟨.string ByteArray.empty, ?_, .str ByteArray.empty⟩;have : aY P (convert s d (.slice none 0 0)) = some (.string ByteArray.empty) := by
   simp only [aY, convert, aA, aD, hs, hd, he, obS, Conv.bytesToString, aB];rfl
  simp only [aC, this]; rfl
 rcases jH hes with ⟨h1, rfl⟩ | h1
 ·simp only [eV, ojE] at hb; subst hb;rcases h1 with rfl | rfl
  ·cases r with
   | emp0 => exact hnil
   | emp1 id off c rcs m hr =>
    refine ⟨_, by simp only [aC, cdf, mI, hs, hd, he, hr.1, oW, AI.bytesOf, omS]; rfl, ?_⟩
    exact hstr [] rfl
   | emp2 b o s' c => exact ⟨_, by simp only [aC, cdf, mI, hs, hd, he]; rfl, hstr [] rfl⟩
  ·cases r; exact hnil
 ·subst h1;cases r with
  | sl _ _ id off c rcs m hz hs' hr hm hb' hh =>
   obtain ⟨_, _, _, rcs', m', l, k1, k2, k3, k4, k5⟩ := aAZ (.sl 1 es id off c rcs m hz hs' hr hm hb' hh);rw [tN hb] at k5;obtain ⟨ns, rfl, h2, h3⟩ := zM hb k5;rw [Nat.mul_one] at k4;exact ⟨_, by simp only [aC, cdf, mI, hs, hd, he, k1.1, k4, h3, omS], hstr ns h2⟩
theorem aBx {xs : List PV} {us : List Value} (r : RL ν σ xs us) : RL ν σ ((mY xs).map (·.1)) us ∧ ∀ (i : Nat) (x : PV), (mY xs)[i]? ≠ some (x, true) := by
 induction xs generalizing us with
 | nil => exact ⟨r, fun i x h => by simp [mY] at h⟩
 | cons x xs ih =>
  obtain ⟨u, us', rfl, hx, hr⟩ := r.cons_inv;obtain ⟨h1, h2⟩ := ih hr;refine ⟨.cons hx.wk h1, fun i y h => ?_⟩
  cases i with
  | zero => simp [mY] at h
  | succ i => simp only [mY, gcS] at h; exact h2 i y h
theorem jD (xs : List PV) : (mY xs).length = xs.length := by
 induction xs with
 | nil => rfl
 | cons x xs ih => simp [mY, ih]
theorem Ow.wk {k : K} {x : PV} {u : Value} (o : Ow ν γ σ k x u) (h : isE x = false) : Ow ν γ σ k (wk x) u := by
 cases x with
 | sl z es => cases es with
  | nil => simp [isE] at h
  | cons e es => exact o
 | nil => cases o with
  | nil => exact .nil _
  | exact _ _ _ _ rcs m hr => exact .exact _ _ _ _ rcs m hr
  | zer _ b o => exact .zer _ b o
 | _ => cases o with
  | nil => exact .nil _
  | exact _ _ _ _ rcs m hr => exact .exact _ _ _ _ rcs m hr
  | zer _ b o => exact .zer _ b o
theorem passA_ok {take : Bool} : ∀ (xs : List Operand) (n : Nat) (γ : Ga) (S : PS), FR ν γ σ S A → xs.all (aH P) = true → RL ν σ ((iR take S xs).1.map (·.1)) (xs.map (ev A)) ∧
    ∃ γ', FR ν γ' σ (iR take S xs).2 A ∧ (∀ (i : Nat) (x : PV) (w : Value), (iR take S xs).1[i]? = some (x, true) → (xs.map (ev A))[i]? = some w → Ow ν γ' σ (.arg (n + i)) x w) ∧ G2 γ γ' ∧ (∀ i k, k < n → γ i = some (.arg k) → γ' i = some (.arg k)) := by
 intro xs;induction xs with
 | nil => intro n γ S F _; exact ⟨.nil, γ, F, fun i x w h => (by simp [iR] at h), .refl γ, fun _ _ _ h => h⟩
 | cons x xs ih =>
  intro n γ S F hx;simp only [alC, bjE] at hx;have rx := aQ F hx.1;cases take with
  | false =>
   obtain ⟨h1, γ', h2, h3, h4, h5⟩ := ih (n + 1) γ S F hx.2;refine ⟨.cons rx.wk h1, γ', h2, fun i y w hy hw => ?_, h4, fun i k hk hi => h5 i k (by omega) hi⟩
   cases i with
   | zero => simp [iR] at hy
   | succ i =>
    simp only [iR, cdf, gcS] at hy;simp only [mpC, gcS] at hw;have := h3 i y w hy hw;rw [show n + (i + 1) = n + 1 + i by omega]; exact this
  | true =>
   obtain ⟨γ0, F0, how, g0, ga⟩ := aBB F x hx.1;have F1 : FR ν (PI.mv .hand (.arg n) γ0) σ (oR S x) A := F0.g fun i t hi => by simp [PI.mv, hi]
   obtain ⟨h1, γ', h2, h3, h4, h5⟩ := ih (n + 1) _ (oR S x) F1 hx.2;refine ⟨.cons rx.wk h1, γ', h2, fun i y w hy hw => ?_, (g0.trans (.mv (by simp) (by simp))).trans h4, fun i k hk hi => ?_⟩
   ·cases i with
    | zero =>
     simp only [iR, gcZ, ojE, pjE] at hy;simp only [mpC, gcZ, ojE] at hw;obtain ⟨rfl, hb⟩ := hy;subst hw;simp only [Bool.true_and, bjE, Bool.not_eq_true'] at hb;exact (((how hb.1).mv (k' := .arg n)).wk hb.2).weak fun j hj => h5 j n (by omega) hj
    | succ i =>
     simp only [iR, cdt, gcS] at hy;simp only [mpC, gcS] at hw;have := h3 i y w hy hw;rw [show n + (i + 1) = n + 1 + i by omega]; exact this
   ·exact h5 i k (by omega) (by simp [PI.mv, ga i k hi])
theorem pop_ok {pc : gK} {ac : FuncId → Array Value → St → Option (Value × St)} (hcall : jM pc ac) {p p' : PSt} {base i : Nat} (M : Mem ν γ p σ) (F : FR ν γ σ S A) (hf : σ.get (base + i) = none) (hlt : base + i < σ.next)
    {o : Oper} (ho : o.op.operands.all (aH P) = true) {sq take own : Bool} {v : PV} {S' : PS} (h : pop P pc sq o take S p = some (v, own, S', p')) :
    ∃ u σ' ν' γ', aop P ac base i o A σ = some (u, σ') ∧ R ν' σ' v u ∧ Mem ν' γ' p' σ' ∧ FR ν' γ' σ' S' A ∧ (own = true → Ow ν' γ' σ' .hand v u) ∧ Adv ν γ p σ ν' γ' p' σ' ∧
      (∀ j, j < σ.next → j ≠ base + i → σ.get j = none → σ'.get j = none) := by
 unfold pop at h;unfold aop;cases hk : aK o with
 | pure =>
  simp only [hk, mjE, pjE] at h;obtain ⟨⟨v', own', S''⟩, hp, rfl, rfl, rfl, rfl⟩ := h;unfold vL at hp;split at hp
  ·rename_i r hpp;simp only [ojE] at hp; subst hp;obtain ⟨u, γ', h1, h2, h3, h4, h5⟩ := aBj F ho hpp;exact ⟨u, σ, ν, γ', by simp only [gP, h1]; rfl, h2, M.g2 h5, h3, h4, .g h5.out, fun j _ _ hj => hj⟩
  ·cases sq with
   | false => cases hp
   | true =>
    simp only [cdt] at hp;obtain ⟨dst, op, ty, pos, af, g⟩ := o;cases op <;> simp only at hp <;> try cases hp
    rename_i s d x;rw [mjE] at hp;obtain ⟨v2, hb, he⟩ := hp;simp only [pjE] at he;obtain ⟨rfl, rfl, rfl⟩ := he
    replace ho := pM ho
    simp only [Op.operands, alC, List.all_nil, bnA] at ho;obtain ⟨w, h1, h2⟩ := aEu (aQ F ho) hb;exact ⟨w, σ, ν, γ, by simp only [gP, dL, mjE]; exact ⟨w, h1, rfl⟩, h2, M, F, fun h => (by cases h), .refl ν γ _ σ, fun j _ _ hj => hj⟩
 | read =>
  simp only [hk, mjE, pjE] at h;obtain ⟨⟨v', own', p''⟩, hp, rfl, rfl, rfl, rfl⟩ := h;obtain ⟨u, γ', h1, h2, h3, h4, h5, h6⟩ := pread_ok M F ho hp;refine ⟨u, σ, ν, γ', by simp only [h1]; rfl, h2, h3, h4, h5, ⟨.refl ν γ σ, .refl σ ν, h6, ?_, fun a cs m h => ⟨cs, m.tip, h⟩, fun _ _ h _ => ⟨rfl, h⟩⟩, fun j _ _ hj => hj⟩
  obtain ⟨dst, op, ty, pos, af, g⟩ := o;cases op with
  | load t a =>
   simp only [iZ] at hp;split at hp
   ·rename_i v2 hv;cases hc : take && aDt v2 with
    | false => rw [hc, cdf] at hp; simp only [ojE, pjE] at hp; obtain ⟨_, _, rfl⟩ := hp; exact .refl p
    | true =>
     rw [hc, cdt] at hp; simp only [ojE, pjE] at hp; obtain ⟨_, _, rfl⟩ := hp;unfold dN;split
     ·split
      ·split
       ·exact .mark p _ _
       ·exact .refl p
      ·exact .refl p
     ·exact .refl p
   ·cases hp
  | slice t x lo hi mx =>
   simp only [iZ, mjE, pjE] at hp;obtain ⟨_, _, _, _, rfl⟩ := hp;exact .refl p
  | _ => simp only [iZ] at hp; cases hp
 | alloc =>
  simp only [hk, mjE, pjE] at h;obtain ⟨⟨v', own', p''⟩, hp, rfl, rfl, rfl, rfl⟩ := h;obtain ⟨u, ob, ν', γ', h1, h2, h3, h4, h5, h6, h7, h8, h9, h10, h11⟩ := aEw M F hf hlt ho hp;refine ⟨u, σ.put (base + i) ob, ν', γ', by simp only [h1]; rfl, h2, h3, h4, h5, ⟨(Keep.put hf).weak fun _ _ => rfl, h6, h7, ⟨h8, fun id hd => by rw [h10.1]; exact hd, fun id hd => by rw [h10.2]; exact hd, fun k hk _ => h11 k hk⟩, rz_put hf, fun id a hi _ => ⟨by rw [aF, if_neg (fun e => M.some_get hi (by rw [e]; exact hf))], by rw [h9 id (M.le _ _ hi)]; exact hi⟩⟩, fun j _ hne hj => ?_⟩
  rw [aF, if_neg hne]; exact hj
 | eff =>
  simp only [hk] at h;simp only;obtain ⟨dst, op, ty, pos, af, g⟩ := o
  replace ho := pM ho
  cases op with
  | store t a x =>
   simp only [Op.operands, alC, List.all_nil, bnA, bjE] at ho;simp only [peff, mjE, pjE] at h;obtain ⟨p2, hp, rfl, rfl, rfl, rfl⟩ := h;obtain ⟨γ0, F0, how, g0⟩ := pT F x ho.2;obtain ⟨σ', γ', h1, h2, h3, h4, h5, h6, h7, i0, a0, hi0, hd0, ho0⟩ := aEn (M.g2 g0) F0 (aQ F ho.1) (aQ F ho.2) how hp;refine ⟨undef, σ', ν, γ', by simp only [yC, h1]; rfl, .und _, h2, h3, fun h => (by cases h), ⟨h4.weak fun a ha => (g0 a).1 ha, .refl σ ν, g0.out.trans h5 (fun _ h => h), ?_, ?_, fun id a hi hd => ⟨ho0 a fun e => hd (by rw [M.inj id i0 a hi (by rw [e]; exact hi0)]; exact hd0), hi⟩⟩, ?_⟩
   ·
    unfold iY at hp;split at hp
    ·split at hp
     ·rename_i cs n _ _;cases hc : Nat.beq (pev S x).cells.length n && Nat.ble _ cs.length && (pev S x).cells.all PV.one with
      | false => rw [hc, cdf] at hp; cases hp
      | true => rw [hc, cdt] at hp; simp only [ojE] at hp; subst hp; exact .upd p _ _
     ·rename_i z ag cs n _ _;cases hc : Nat.beq (pev S x).cells.length n && Nat.ble _ cs.length && (pev S x).cells.all PV.one with
      | false => rw [hc, cdf] at hp; cases hp
      | true => rw [hc, cdt] at hp; simp only [ojE] at hp; subst hp; exact .upd p _ _
     ·cases hp
    ·cases hp
   ·intro a' cs m hg;unfold eK at h1;split at h1
    ·split at h1
     ·rename_i cs2 m2 n hrow _;cases hc : m2.wr && Nat.beq (ev A x).cells.size n && Nat.ble _ cs2.length && (ev A x).cells.toList.all one with
      | false => rw [hc, cdf] at h1; cases h1
      | true =>
       rw [hc, cdt] at h1;split at h1
       ·simp only [ojE] at h1; subst h1;rw [aF];split
        ·rename_i e; subst e;have := (bS hrow).1;rw [hg] at this;simp only [ojE, AObj.cells.injEq] at this;obtain ⟨_, rfl⟩ := this;exact ⟨_, m.tip, rfl⟩
        ·exact ⟨cs, m.tip, hg⟩
       ·rename_i gg vv hgg;cases hlm : m2.tip && Nat.ble m2.lim _ with
        | true =>
         rw [hlm, cdt] at h1;simp only [ojE] at h1; subst h1;rw [aF];split
         ·rename_i e; subst e;have := (bS hrow).1;rw [hg] at this;simp only [ojE, AObj.cells.injEq] at this;obtain ⟨_, rfl⟩ := this;exact ⟨_, m.tip, rfl⟩
         ·exact ⟨cs, m.tip, hg⟩
        | false =>
        rw [hlm, cdf] at h1;simp only [ojE] at h1; subst h1;exfalso;have hv := h4.vers;have h0 := M.ver gg;have hgood := (bS hrow).2;simp only [St.good, hgg] at hgood;have hvv := nqE hgood;have h0' := h2.ver gg;simp only [St.bump, St.ver, Tr.get_set, if_true, Option.getD_some] at h0';omega
     ·cases h1
    ·cases h1
   ·intro j hj hne hn;cases hh : σ'.get j with
    | none => rfl
    | some ob =>
     exfalso;unfold eK at h1;split at h1
     ·split at h1
      ·rename_i cs2 m2 n hrow _;cases hc : m2.wr && Nat.beq (ev A x).cells.size n && Nat.ble _ cs2.length && (ev A x).cells.toList.all one with
       | false => rw [hc, cdf] at h1; cases h1
       | true =>
        rw [hc, cdt] at h1;have hput : ∀ k o, σ.row k = some (cs2, m2) → (σ.put k o).get j = some ob → False := fun k o hrow hh => by
         rw [aF] at hh;split at hh
         ·rename_i e; rw [← e] at hrow; rw [(bS hrow).1] at hn; cases hn
         ·rw [hn] at hh; cases hh
        split at h1
        ·simp only [ojE] at h1; subst h1; exact hput _ _ hrow hh
        ·cases hlm : m2.tip && Nat.ble m2.lim _ with
         | true => rw [hlm, cdt] at h1; simp only [ojE] at h1; subst h1; exact hput _ _ hrow hh
         | false =>
         rw [hlm, cdf] at h1;simp only [ojE] at h1; subst h1;have : (σ.put _ _).get j = some ob := hh;rw [aF] at this;split at this
         ·rename_i e; subst e; rw [(bS hrow).1] at hn; cases hn
         ·rw [hn] at this; cases this
      ·cases h1
     ·cases h1
  | call c =>
   obtain ⟨callee, cargs, argTypes⟩ := c;simp only [Op.operands, Call.operands, Array.toList_append, List.all_append, bjE] at ho;have hgen : ∀ {g : Nat} {args : List (PV × Bool)}, kN take S ⟨callee, cargs, argTypes⟩ = some (g, args) → ∃ us γ', qM (ev A) ⟨callee, cargs, argTypes⟩ = some (g, us) ∧ RL ν σ (args.map (·.1)) us.toList ∧
          FR ν γ' σ (iR take S cargs.toList).2 A ∧ (∀ (i : Nat) (x : PV) (w : Value), args[i]? = some (x, true) → us.toList[i]? = some w → Ow ν γ' σ (.arg i) x w) ∧ G2 γ γ' := by
    intro g' args hc;unfold kN at hc;split at hc
    ·rename_i f hce;simp only at hce;subst hce;simp only [qM];have hfo : aH P f = true := by simpa using ho.1
     have rf := aQ F hfo;split at hc
     ·rename_i gg first captured hpf
      simp only [ojE, pjE] at hc;obtain ⟨rfl, rfl⟩ := hc;rw [hpf] at rf;generalize ev A f = w at rf;cases rf with
      | fn _ _ _ us vs hl hh hl' hh' =>
       have h1 : RL ν σ first us.toList := ⟨hl, hh⟩
       have h2 : RL ν σ captured vs.toList := ⟨hl', hh'⟩;obtain ⟨n1, n2⟩ := aBx h1;obtain ⟨m1, m2⟩ := aBx h2;obtain ⟨p1, γ', p2, p3, p4, _⟩ := passA_ok (take := take) cargs.toList first.length γ S F ho.2
       have hpl : (iR take S cargs.toList).1.length = cargs.toList.length := by have := p1.1; simpa using this
       refine ⟨_, γ', rfl, ?_, p2, fun i x w hx hw => ?_, p4⟩
       ·have := n1.append (p1.append m1);simpa using this
       ·simp only [Array.toList_append, Array.toList_map, apA] at hw;rcases Nat.lt_or_ge i first.length with hi | hi
        ·rw [List.getElem?_append_left (by rw [jD]; exact hi)] at hx
         exact absurd hx (n2 i x)
        ·rw [List.getElem?_append_right (by rw [jD]; exact hi), jD] at hx
         rw [List.getElem?_append_right (by rw [← h1.1]; exact hi), ← h1.1] at hw
         rcases Nat.lt_or_ge (i - first.length) cargs.toList.length with hj | hj
         ·rw [List.getElem?_append_left (by rw [hpl]; exact hj)] at hx
          rw [List.getElem?_append_left (by rw [List.length_map]; exact hj)] at hw
          have := p3 _ x w hx hw;rw [show first.length + (i - first.length) = i by omega] at this
          exact this
         ·rw [List.getElem?_append_right (by rw [hpl]; exact hj)] at hx
          exact absurd hx (m2 _ x)
     ·cases hc
    ·cases hc
   cases callee with
   | builtin b =>
    cases b with
    | append =>
     simp only [peff] at h;simp only [yC];split at h
     ·rename_i s x hargs;simp only [hargs] at ho ⊢;simp only [alC, List.all_nil, bnA, bjE] at ho;simp only [mjE, pjE] at h;obtain ⟨⟨v', own', S''⟩, hp, rfl, rfl, rfl, rfl⟩ := h;obtain ⟨u, σ', γ', h1, h2, h3, h4, h5, h6, h7, h8⟩ := aCK M F hf hlt ho.2.1 ho.2.2 hp;have hget : ∀ j, σ'.get j = σ.get j ∨ j = base + i ∨ (∃ cs m b, (σ.get j = some (.cells cs m) ∧ m.tip = true) ∧ σ'.get j = some (.cells cs { m with tip := b })) := by
       intro j;unfold gJ at h1;split at h1
       ·split at h1
        ·rename_i e d _ _;cases hc : fits d (ev A x) with
         | false => rw [hc, cdf] at h1; cases h1
         | true =>
          rw [hc, cdt] at h1;split at h1
          ·rename_i info _;split at h1
           ·rename_i n xs z _ _;cases hc2 : xs.all one && Nat.ble 1 info.size && Nat.ble 1 info.bytes && Nat.beq z.cells.size info.size && dJ (ev A s) with
            | false => rw [hc2, cdf] at h1; cases h1
            | true =>
             rw [hc2, cdt] at h1;cases hc3 : Nat.beq n 0 with
             | true => rw [hc3, cdt] at h1; simp only [ojE, pjE] at h1; obtain ⟨_, rfl⟩ := h1; exact .inl rfl
             | false =>
              rw [hc3, cdf] at h1;have hput : ∀ o, (σ.put (base + i) o).get j = σ.get j ∨ j = base + i ∨ (∃ cs m b, (σ.get j = some (.cells cs m) ∧ m.tip = true) ∧ (σ.put (base + i) o).get j = some (.cells cs { m with tip := b })) := fun o => by
               rw [aF];by_cases e : j = base + i
               ·exact .inr (.inl e)
               ·rw [if_neg e]; exact .inl rfl
              unfold iT at h1;split at h1
              ·cases hc4 : Nat.ble (n * info.bytes) 1073741824 with
               | false => rw [hc4, cdf] at h1; cases h1
               | true => rw [hc4, cdt] at h1; simp only [ojE, pjE] at h1; obtain ⟨_, rfl⟩ := h1; exact hput _
              ·rename_i id off len k _;cases hc4 : Nat.ble ((len + n) * info.bytes) 1073741824 with
               | false => rw [hc4, cdf] at h1; cases h1
               | true =>
                rw [hc4, cdt] at h1;split at h1
                ·rename_i cs m hrow;split at h1
                 ·rename_i old _;cases hc5 : Nat.beq k len with
                  | true => rw [hc5, cdt] at h1; simp only [ojE, pjE] at h1; obtain ⟨_, rfl⟩ := h1; exact hput _
                  | false =>
                   rw [hc5, cdf] at h1;cases hc6 : m.tip && m.wr && Nat.beq m.z info.size && Nat.beq (off + len * info.size) cs.length && m.grp.isSome with
                   | false => rw [hc6, cdf] at h1; cases h1
                   | true =>
                    rw [hc6, cdt] at h1; simp only [ojE, pjE] at h1; obtain ⟨_, rfl⟩ := h1;rw [aF];by_cases e : j = base + i
                    ·exact .inr (.inl e)
                    ·rw [if_neg e, aF];by_cases e2 : j = id
                     ·subst e2; rw [if_pos rfl]; exact .inr (.inr ⟨cs, m, false, ⟨(bS hrow).1, by simp only [bjE] at hc6; exact hc6.1.1.1.1⟩, rfl⟩)
                     ·rw [if_neg e2]; exact .inl rfl
                 ·cases h1
                ·cases h1
              ·rename_i b0 o0 s0 l0 k0 _;cases hc4 : Nat.beq s0 1 && Nat.ble (n * info.bytes) 1073741824 with
               | false => rw [hc4, cdf] at h1; cases h1
               | true => rw [hc4, cdt] at h1; simp only [ojE, pjE] at h1; obtain ⟨_, rfl⟩ := h1; exact hput _
              ·cases h1
           ·cases h1
          ·cases h1
        ·cases h1
       ·cases h1
      refine ⟨u, σ', ν, γ', h1, h2, h3, h4, h5, ⟨h6, .refl σ ν, h7, .refl p, fun a cs m hg => ?_, fun id a hi _ => ⟨?_, hi⟩⟩, fun j hj hne hn => ?_⟩
      ·rcases hget a with e | e | ⟨cs', m', b, e1, e2⟩
       ·exact ⟨cs, m.tip, by rw [e]; exact hg⟩
       ·subst e; rw [hf] at hg; cases hg
       ·rw [hg] at e1; simp only [ojE, AObj.cells.injEq] at e1; obtain ⟨⟨rfl, rfl⟩, _⟩ := e1; exact ⟨_, b, e2⟩
      ·rcases hget a with e | e | ⟨cs', m', b, e1, e2⟩
       ·exact e
       ·exact absurd (e ▸ hf) (M.some_get hi)
       ·exfalso;have := M.no_tip hi e1.1;rw [e1.2] at this; cases this
      ·rcases hget j with e | e | ⟨cs', m', b, e1, e2⟩
       ·rw [e]; exact hn
       ·exact absurd e hne
       ·rw [hn] at e1; cases e1.1
     ·cases h
    | _ => simp only [peff, kN] at h; cases h
   | invoke r m => simp only [peff, kN] at h; cases h
   | value f =>
    simp only [peff] at h;simp only [yC];split at h
    ·rename_i g' args hc;obtain ⟨us, γ1, hu, hrl, F1, hown, g1⟩ := hgen hc;simp only [hu];simp only [mjE, pjE] at h;obtain ⟨⟨v', own', p2⟩, hp, rfl, rfl, rfl, rfl⟩ := h;obtain ⟨u, σ', ν', γ', h1, h2, h3, h4, h5, h6, h7⟩ := call_ok hcall (M.g2 g1) F1 hrl hown hp;exact ⟨u, σ', ν', γ', h1, h2, h3, h4, h5, (Adv.g g1.out).trans h6, fun j hj _ hn => h7 j hj hn⟩
    ·cases h
  | _ => simp only [peff] at h; cases h
end
end Go.PI
namespace Go.PI
open Go.AI
structure Qt (σ σ' : St) : Prop where
 vers : σ'.vers = σ.vers
 get : ∀ a ob, σ.get a = some ob → σ'.get a = some ob ∨ ∃ cs m b, ob = .cells cs m ∧ m.tip = true ∧ σ'.get a = some (.cells cs { m with tip := b })
theorem Qt.refl (σ : St) : Qt σ σ := ⟨rfl, fun a ob h => .inl h⟩
theorem Qt.bx {ν : Nu} {γ : Ga} {σ σ' : St} {p : PSt} (q : Qt σ σ') (M : Mem ν γ p σ) {id a : Nat} (h : ν id = some (some a)) : σ'.get a = σ.get a := by
 cases e : σ.get a with
 | none => exact absurd e (M.some_get h)
 | some ob =>
  rcases q.get a ob e with e1 | ⟨cs, m, b, e1, e2, _⟩
  ·exact e1
  ·subst e1; rw [M.no_tip h e] at e2; cases e2
theorem Tr.setF_setF {α : Type} : ∀ (f : Nat) (t : Tr α) (n : Nat) (x y : α), Tr.setF f (Tr.setF f t n x) n y = Tr.setF f t n y := by
 intro f;induction f with
 | zero => intro t n x y; rfl
 | succ f ih =>
  intro t n x y;cases t with
  | nil =>
   simp only [Tr.setF];cases h : Nat.beq n 0 with
   | true => simp only [cdt, Tr.setF, h]
   | false =>
    simp only [cdf];cases h2 : Nat.beq (n % 2) 1 with
    | true => simp only [cdt, Tr.setF, h, h2, cdf, ih]
    | false => simp only [cdf, Tr.setF, h, h2, ih]
  | node v l r =>
   simp only [Tr.setF];cases h : Nat.beq n 0 with
   | true => simp only [cdt, Tr.setF, h]
   | false =>
    simp only [cdf];cases h2 : Nat.beq (n % 2) 1 with
    | true => simp only [cdt, Tr.setF, h, h2, cdf, ih]
    | false => simp only [cdf, Tr.setF, h, h2, ih]
theorem Tr.set_set {α : Type} (t : Tr α) (n : Nat) (x y : α) : Tr.set (Tr.set t n x) n y = Tr.set t n y := Tr.setF_setF _ t n x y
theorem put_put (σ : St) (id : Nat) (a b : AObj) : (σ.put id a).put id b = σ.put id b := by
 simp only [St.put, Tr.set_set]
section
variable {P : Program} {ν ν' : Nu} {γ γ1 γ' : Ga} {σ σ' : St} {S : PS} {A : Slots}
theorem aDa {p : PSt} {id z bytes : Nat} (M : Mem ν γ p σ) (F : FR ν γ σ S A) (hf : σ.get id = none) (hlt : id < σ.next) (hz1 : 1 ≤ z) {x : PV} {w : Value} {es : List PV} (hes : lB z x = some es) (rs : R ν σ x w) (how : Ow ν γ σ .hand x w) :
    ∃ old σc m, RL ν σc (eE es) old ∧ (∀ n vals, Nat.ble ((es.length + n) * bytes) 1073741824 = true → iT σ id z bytes n vals w = some (.slice (some ⟨id, 0, none⟩) (es.length + n) (es.length + n + 1), σc.put id (.cells (old ++ vals) m))) ∧
      (∀ e ∈ es, e.cells.length = z ∧ e.cells.all PV.pur = true) ∧ Mem ν γ p σc ∧ FR ν γ σc S A ∧ σc.get id = none ∧ σc.next = σ.next ∧ m.z = z ∧ m.tip = true ∧ m.wr = true ∧ m.grp.isSome = true ∧ σc.good m = true ∧ m.lim ≤ old.length ∧
      Keep ν γ σ σc ∧ Qt σ σc ∧ old.length = es.length * z ∧ (∀ j, σ.get j = none → σc.get j = none) := by
 have hgt := aDH M z id;rcases jH hes with ⟨h1, rfl⟩ | h1
 ·have rse : R ν σ .emp w := by
   rcases h1 with rfl | rfl
   ·exact rs
   ·cases rs; exact .emp0
  have how' : Ow ν γ σ .hand .emp w ∨ w = .slice none 0 0 := by
   rcases h1 with rfl | rfl
   ·exact .inl how
   ·right; cases rs; rfl
  refine ⟨[], σ, cV z id, .nil, fun n vals hlim => ?_, fun e he => by simp at he, M, F, hf, rfl, rfl, rfl, rfl, rfl, hgt, nlR _, .refl ν γ σ, .refl σ, by simp, fun _ h => h⟩
  simp only [lnN, Nat.zero_add] at hlim ⊢;cases rse with
  | emp0 => simp only [iT, hlim, cdt]; rfl
  | emp1 id0 off c rcs m hr =>
   have : c = 0 := by
    rcases how' with how | how
    ·cases how; rfl
    ·cases how
   subst this;simp only [iT, Nat.zero_add, hlim, cdt, hr.1, Nat.zero_mul, oW];rfl
  | emp2 b o s' c =>
   rcases how' with how | how
   ·cases how;have hq : (Nat.beq 1 1 && Nat.ble (n * bytes) 1073741824) = true := by rw [hlim]; rfl
    simp only [iT, hq, cdt]; rfl
   ·cases how
 ·subst h1;obtain ⟨id0, off, cc, rcs, m, l, hw, hr, hmz, hb, hl, hrl, hse⟩ : ∃ id0 off cc rcs m l, w = .slice (some ⟨id0, off, none⟩) es.length cc ∧ Fz ν σ id0 rcs m ∧ m.z = z ∧ off + es.length * z ≤ rcs.length ∧ cut rcs off (es.length * z) = some l ∧ RL ν σ (eE es) l ∧ (∀ e ∈ es, e.cells.length = z ∧ e.cells.all PV.pur = true) := by
   cases rs with
   | sl _ _ id0 off cc rcs m hz hs hr hm hb hh =>
    obtain ⟨_, _, hs', rcs', m', l, k1, k2, k3, k4, k5⟩ := aAZ (.sl z es id0 off cc rcs m hz hs hr hm hb hh);exact ⟨id0, off, cc, rcs', m', l, rfl, k1, k2, k3, k4, k5, hs'⟩
  have hll : l.length = es.length * z := by rw [← hrl.1, cZ (fun e he => (hse e he).1)]
  subst hw;by_cases hcc : cc = es.length
  ·refine ⟨l, σ, cV z id, hrl, fun n vals hlim => ?_, hse, M, F, hf, rfl, rfl, rfl, rfl, rfl, hgt, Nat.zero_le _, .refl ν γ σ, .refl σ, hll, fun _ h => h⟩
   rw [hcc];simp only [iT, hlim, cdt, hr.1, hl];rw [show Nat.beq es.length es.length = true by simp [cN]]
   rfl
  ·cases how with
   | exact => exact absurd rfl hcc
   | tip z0 es0 _ _ _ rcs2 m2 hr2 ht hwr hg hb2 hk =>
    have : rcs2 = rcs ∧ m2 = m := by have := hr2.1; rw [hr.1] at this; simp only [ojE, pjE] at this; exact ⟨this.1.symm, this.2.symm⟩
    obtain ⟨rfl, rfl⟩ := this;obtain ⟨hget, hgood⟩ := bS hr.1;have hii : id0 ≠ id := fun e => by rw [e, hf] at hget; cases hget
    have kp : Keep ν (fun i => if i = id0 then none else some .out) σ (σ.put id0 (.cells rcs2 { m2 with tip := false })) := by
     refine ⟨rfl, nlR _, fun a ha => ?_, fun a hn cs m hg' => ?_⟩
     ·rw [aF] at ha; split at ha
      ·cases ha
      ·exact ha
     ·by_cases e : a = id0
      ·subst e;rw [hget] at hg';simp only [ojE, AObj.cells.injEq] at hg';obtain ⟨rfl, rfl⟩ := hg';refine ⟨false, by rw [aF, if_pos rfl], fun _ => rfl, fun h => ?_⟩
       simp at h
      ·exact ⟨m.tip, by rw [aF, if_neg e]; exact hg', fun h => h, fun _ => rfl⟩
    have hkk : ∀ i k, γ i = some k → k ≠ .hand → (if i = id0 then none else some K.out) = some K.out := fun i k hi hk' => by
     rw [if_neg]; intro e; rw [e, hk] at hi; simp only [ojE] at hi; exact hk' hi.symm
    refine ⟨l, σ.put id0 (.cells rcs2 { m2 with tip := false }), { m2 with lim := l.length }, hrl.keep kp (.refl σ ν), fun n vals hlim => ?_, hse, ?_, F.keep kp (.refl σ ν) fun i t hi _ => ⟨hkk i _ hi (by simp), hi⟩,
     by rw [aF, if_neg (Ne.symm hii)]; exact hf, rfl, hmz, ht, hwr, hg, hgood, nlR _, kp.weak fun a ha => hkk a _ ha (by simp), ?_, hll, fun j hj => by rw [aF, if_neg (fun e => by rw [e, hget] at hj; cases hj)]; exact hj⟩
    ·simp only [iT, hlim, cdt, hr.1, hl];rw [show Nat.beq cc es.length = false by rw [cN]; simp [hcc]]
     simp only [cdf];rw [show (m2.tip && m2.wr && Nat.beq m2.z z && Nat.beq (off + es.length * z) rcs2.length && m2.grp.isSome) = true by
      rw [hmz] at hb2;simp only [ht, hwr, hg, cN, hmz, hb2, decide_true, Bool.and_self]]
     rfl
    ·refine ⟨M.le, M.lt, M.inj, M.live, fun k o hk' => ?_, fun a ha => ?_, M.ver⟩
     ·refine (M.get k o hk').keep kp (.refl σ ν) rfl (fun a ha => ?_) fun i off' hi _ => ⟨hkk i _ hi (by simp), hi⟩
      rw [aF, if_neg (fun e => hr.2 k (by rw [← e]; exact ha))]
     ·rw [aF, if_neg (fun e => by subst e; rw [M.free a ha] at hget; cases hget)]; exact M.free a ha
    ·refine ⟨rfl, fun a ob hg' => ?_⟩
     rw [aF];by_cases e2 : a = id0
     ·subst e2;rw [hget] at hg';simp only [ojE] at hg'; subst hg';rw [if_pos rfl]; exact .inr ⟨rcs2, m2, false, rfl, ht, rfl⟩
     ·rw [if_neg e2]; exact .inl hg'
theorem lA {a : Nat} {x : Operand} (h : isT a x = false) (u : Value) : ev (A.store (some a) u) x = ev A x := by
 cases x with
 | tmp t =>
  simp only [isT, cN, dfN] at h;simp only [ev, Slots.store, uU];rw [if_neg (fun e => h e.symm)]
 | _ => rfl
theorem R.pin_of {z : Nat} {fs : List PV} {v : Value} (h : R ν σ (.sl z fs) v) {id len cap : Nat} (e : v = .slice (some ⟨id, 0, none⟩) len cap) (k : Nat) : R ν σ (.pin fs k 0) (.pointer (some ⟨id, 0 + k * z, none⟩)) := by
 cases h with
 | sl _ _ id' off c rcs m hz hs hr hm hb h =>
  simp only [Value.slice.injEq, ojE, Addr.mk.injEq] at e;obtain ⟨⟨rfl, rfl, _⟩, _, _⟩ := e;exact R.pin z fs k 0 id' 0 rcs m hs hr hb h
theorem aBq {ac : FuncId → Array Value → St → Option (Value × St)} {p : PSt} {base : Nat} {oA oI oS : Oper} {iA iI iS : Nat} (M : Mem ν γ p σ) (F : FR ν γ σ S A) (hf : σ.get (base + iA) = none) (hlt : base + iA < σ.next)
    (hA : oA.op.operands.all (aH P) = true) (hI : oI.op.operands.all (aH P) = true) (hS : oS.op.operands.all (aH P) = true) {S' : PS} (h : aCL P S oA oI oS = some S') :
    ∃ u1 u2 σ1 σ2 γ', yC P ac σ (ev A) oA (base + iA) = some (u1, σ1) ∧ dL P (ev (A.store oA.dst u1)) oI = some u2 ∧ yC P ac σ1 (ev ((A.store oA.dst u1).store oI.dst u2)) oS (base + iS) = some (undef, σ2) ∧
      aK oA = .eff ∧ aK oI = .pure ∧ aK oS = .eff ∧ oA.guard = none ∧ oI.guard = none ∧ oS.guard = none ∧ oS.dst = none ∧ iC oA = true ∧
      Mem ν γ' p σ2 ∧ FR ν γ' σ2 S' ((A.store oA.dst u1).store oI.dst u2) ∧ Adv ν γ p σ ν γ' p σ2 ∧ Qt σ σ1 ∧ Qt σ σ2 ∧ σ1.next = σ.next ∧ (∀ j, j ≠ base + iA → σ.get j = none → σ1.get j = none ∧ σ2.get j = none) := by
 obtain ⟨dA, opA, tyA, posA, afA, gA⟩ := oA;obtain ⟨dI, opI, tyI, posI, afI, gI⟩ := oI;obtain ⟨dS, opS, tyS, posS, afS, gS⟩ := oS;unfold aCL at h;split at h
 ·rename_i c a t1 a' n b t2 b' x e1 e2 e3 e4 e5 e6;simp only at e1 e2 e3 e4 e5 e6;subst e1 e2 e3 e4 e5 e6;obtain ⟨callee, cargs, ats⟩ := c;split at h
  ·rename_i s zz ec ea;simp only at ec ea;subst ec;cases hc : Nat.beq a a' && Nat.beq b b' && !Nat.beq a b && !isT a n && !isT a x && !isT b x && gA.isNone && gI.isNone && gS.isNone with
   | false => rw [hc, cdf] at h; cases h
   | true =>
    rw [hc, cdt] at h;simp only [bjE, Bool.not_eq_true', Option.isNone_iff_eq_none] at hc;obtain ⟨⟨⟨⟨⟨⟨⟨⟨ha, hb⟩, hab⟩, hn⟩, hxa⟩, hxb⟩, hgA⟩, hgI⟩, hgS⟩ := hc;have ha := nqE ha; subst ha;have hb := nqE hb; subst hb;have hab : a ≠ b := by intro e; rw [e] at hab; simp [cN] at hab
    subst hgA hgI hgS;rw [mjE] at h;obtain ⟨v, hv, rfl⟩ := h
    replace hA := pM hA
    replace hI := pM hI
    replace hS := pM hS
    simp only [Op.operands, Call.operands, Array.toList_append, List.all_append, bjE, ea, alC, List.all_nil, bnA] at hA;simp only [Op.operands, alC, List.all_nil, bnA, bjE] at hI hS;unfold pappV at hv;split at hv
    ·rename_i t tz hts;split at hv
     ·rename_i e d he hd;split at hv
      ·rename_i info ag hi hag;split at hv
       ·rename_i es y zv kk k hes hsrc hzv hk;cases hc2 : Nat.ble 1 info.size && Nat.ble 1 info.bytes && Nat.beq zv.cells.size info.size && jA S s && Nat.ble ((es.length + 1) * info.bytes) 1073741824 && Nat.beq t1 t && Nat.beq t2 e && decide (k = (es.length : Int)) && shape ag info.size (pev S x) with
        | false => rw [hc2, cdf] at hv; cases hv
        | true =>
         rw [hc2, cdt] at hv;simp only [ojE] at hv; subst hv;simp only [bjE, djE] at hc2;obtain ⟨⟨⟨⟨⟨⟨⟨⟨c1, c2⟩, c3⟩, c4⟩, c5⟩, c6⟩, c7⟩, c8⟩, c9⟩ := hc2;have c6 := nqE c6; subst c6;have c7 := nqE c7; subst c7;subst c8;have hz1 := Nat.le_of_ble_eq_true c1;obtain ⟨zvals, hz2, hz3, hz4, hz5⟩ := rT (aQ F hA.2.2) hz1 hsrc;obtain ⟨γ0, F0, how, g0⟩ := pT F s hA.2.1;have M0 := M.g2 g0;obtain ⟨old, σc, m, k1, k2, k3, k4, k5, k6, k7, k8, k9, k10, k11, k12, k13, k14, k15, k16, k17⟩ := aDa (bytes := info.bytes) M0 F0 hf hlt hz1 hes (aQ F hA.2.1) (how c4);have hag1 := k2 1 zvals c5;have hzl : zvals.length = info.size := by
          rw [← hz3.1]; simp only [eE, fmC, fmN, apN]; exact (hz4 y (by simp)).1
         have hone : zvals.all one = true := hz3.one (by
          simp only [eE, fmC, fmN, apN]; exact lS (hz4 y (by simp)).2)
         have hsl : dJ (ev A s) = true := by
          have rs := aQ F hA.2.1;rcases jH hes with ⟨h1 | h1, _⟩ | h1 <;> rw [h1] at rs <;> generalize ev A s = w at rs <;> cases rs <;> rfl
         have hts : ats.toList = [t1, tz] := hts;have hap : gJ P σ (base + iA) ⟨.builtin .append, cargs, ats⟩ (ev A s) (ev A zz) = some (.slice (some ⟨base + iA, 0, none⟩) (es.length + 1) (es.length + 1 + 1), σc.put (base + iA) (.cells (old ++ zvals) m)) := by
          unfold gJ;simp only [hts, he, hd, hi, hz5, cdt, hz2, hzv];rw [show (zvals.all one && Nat.ble 1 info.size && Nat.ble 1 info.bytes && Nat.beq zv.cells.size info.size && dJ (ev A s)) = true by
           simp only [hone, c1, c2, c3, hsl, Bool.and_self]]
          exact hag1
         obtain ⟨xl, xp⟩ := lN c9;have rx := aQ F hS.2;have hxc := rx.cells (lS xp);have hxcl : (ev A x).cells.toList.length = info.size := by rw [← hxc.1, xl]
         have hsz : iJ P t2 = some info.size := by simp only [iJ, hi]; rfl
         have hwx : (wk (pev S x)).cells.length = info.size := by rw [fW, eM, xl]
         have hxr : RL ν σc (eE [wk (pev S x)]) (ev A x).cells.toList := by
          simp only [eE, fmC, fmN, apN];rw [fW]; exact hxc.wks.keep k14 (.refl σ ν)
         obtain ⟨γ', j1, j2, j3, j4, j5, j6⟩ := uC (m := m) (xs := [wk (pev S x)]) k4 k5 k6 (by rw [k7]; exact hlt) hz1 (fun q hq => by
          rcases List.mem_append.1 hq with hq | hq
          ·exact k3 q hq
          ·simp only [List.mem_singleton] at hq; subst hq; exact ⟨hwx, by rw [fW]; exact sV xp⟩) k1 hxr k8 k9 k10 k11 k12 (es.length + 1 + 1) (by simp)
         have hmk : cU info.size (es ++ [wk (pev S x)]) = .sl info.size (es ++ [wk (pev S x)]) := by
          cases hh : es ++ [wk (pev S x)] with
          | nil => simp at hh
          | cons q l => rfl
         rw [hmk] at j1 j4;have hst : eK P (σc.put (base + iA) (.cells (old ++ zvals) m)) t2 (.pointer (some ⟨base + iA, 0 + es.length * info.size, none⟩)) (ev A x) = some (σc.put (base + iA) (.cells (old ++ (ev A x).cells.toList) m)) := by
          have hrow : (σc.put (base + iA) (.cells (old ++ zvals) m)).row (base + iA) = some (old ++ zvals, m) := row_of_get (by rw [aF, if_pos rfl]) k12
          simp only [eK, hrow, hsz];rw [show (m.wr && Nat.beq (ev A x).cells.size info.size && Nat.ble (0 + es.length * info.size + info.size) (old ++ zvals).length && (ev A x).cells.toList.all one) = true by
           rw [hxc.one (lS xp), cN, aCP];simp only [Array.length_toList] at hxcl;simp only [k10, hxcl, decide_true, bnA, Bool.true_and, djE, lnA, hzl, k16];omega]
          simp only [cdt];have hput : fB (old ++ zvals) (0 + es.length * info.size) (ev A x).cells.toList = old ++ (ev A x).cells.toList := by
           rw [tI _ _ _ (by simp only [lnA, hzl, k16, hxcl]; omega), Nat.zero_add, ← k16, List.take_left', hxcl]
           ·rw [List.drop_eq_nil_of_le (by simp only [lnA, hzl]; omega), apN]
           ·rfl
          rw [hput];obtain ⟨⟨g, v⟩, hgv⟩ := Option.isSome_iff_exists.1 k11;rw [hgv];simp only;rw [show (m.tip && Nat.ble m.lim (0 + es.length * info.size)) = true by rw [k9, aCP]; simp only [Bool.true_and, djE]; omega]
          simp only [cdt, put_put]
         have hq1 : Qt σ (σc.put (base + iA) (.cells (old ++ zvals) m)) := ⟨k15.vers, fun q ob hq => by
          rw [aF, if_neg (fun e => by rw [e, hf] at hq; cases hq)]; exact k15.get q ob hq⟩
         have hq2 : Qt σ (σc.put (base + iA) (.cells (old ++ (ev A x).cells.toList) m)) := ⟨k15.vers, fun q ob hq => by
          rw [aF, if_neg (fun e => by rw [e, hf] at hq; cases hq)]; exact k15.get q ob hq⟩
         obtain ⟨γ1, F1, g1⟩ := j3.put (d := some a) j1 (fun _ => j4)
         have hpin : R ν (σc.put (base + iA) (.cells (old ++ (ev A x).cells.toList) m)) (pinL (.sl info.size (es ++ [wk (pev S x)]))) (.pointer (some ⟨base + iA, 0 + es.length * info.size, none⟩)) := by
          have hle : (es ++ [wk (pev S x)]).length - 1 = es.length := by simp
          simp only [pinL, hle];exact R.pin_of j1 rfl es.length
         obtain ⟨γ2, F2, g2⟩ := F1.put (d := some b) (v := pinL (.sl info.size (es ++ [wk (pev S x)]))) (u := .pointer (some ⟨base + iA, 0 + es.length * info.size, none⟩)) (own := false) hpin (fun h => by cases h)
         refine ⟨.slice (some ⟨base + iA, 0, none⟩) (es.length + 1) (es.length + 1 + 1), .pointer (some ⟨base + iA, 0 + es.length * info.size, none⟩), _, _, γ2, ?_, ?_, ?_, rfl, rfl, rfl, rfl, rfl, rfl, rfl, rfl, (j2.g2 g1).g2 g2, F2, ⟨?_, .refl σ ν, ?_, .refl p, ?_, fun _ _ hi _ => ⟨hq2.bx M hi, hi⟩⟩, hq1, hq2, k7, fun j hj hn => ?_⟩
         ·simp only [yC, ea]; exact hap
         ·simp only [dL];have hnk : ev (A.store (some a) (.slice (some ⟨base + iA, 0, none⟩) (es.length + 1) (es.length + 1 + 1))) n = .int kk (es.length : Int) := by
           rw [lA hn];have rn := aQ F hI.2;rw [hk] at rn;generalize ev A n = w at rn;cases rn; rfl
          have hak : ev (A.store (some a) (.slice (some ⟨base + iA, 0, none⟩) (es.length + 1) (es.length + 1 + 1))) (.tmp a) = .slice (some ⟨base + iA, 0, none⟩) (es.length + 1) (es.length + 1 + 1) := by
           simp only [ev, Slots.store, uU, if_true]
          rw [hnk, hak];simp only [dU, he, hsz];rw [show bH (es.length : Int) (es.length + 1) = true by simp only [bH, bjE, djE]; omega]
          simp only [cdt, Int.toNat_natCast]
         ·simp only [yC];have hx1 : ev ((A.store (some a) (.slice (some ⟨base + iA, 0, none⟩) (es.length + 1) (es.length + 1 + 1))).store (some b) (.pointer (some ⟨base + iA, 0 + es.length * info.size, none⟩))) x = ev A x := by
           rw [lA hxb, lA hxa]
          have hb1 : ev ((A.store (some a) (.slice (some ⟨base + iA, 0, none⟩) (es.length + 1) (es.length + 1 + 1))).store (some b) (.pointer (some ⟨base + iA, 0 + es.length * info.size, none⟩))) (.tmp b) = .pointer (some ⟨base + iA, 0 + es.length * info.size, none⟩) := by
           simp only [ev, Slots.store, uU, if_true]
          rw [hx1, hb1, hst]; rfl
         ·have := Keep.trans (γ := γ0) k14 (.refl σ ν) (j5.weak (γ := γ0) fun _ _ => rfl) (.refl σ γ0)
          exact this.weak fun q hq => (g0 q).1 hq
         ·exact ((g0.out (σ := σ)).trans j6 (fun q hq => k14.dom q hq)).trans ((g1.trans g2).out (σ := σ)) (fun _ h => h)
         ·intro q cs mm hq;rcases hq2.get q _ hq with e | ⟨cs', m', b', e1, _, e2⟩
          ·exact ⟨cs, mm.tip, e⟩
          ·simp only [AObj.cells.injEq] at e1; obtain ⟨rfl, rfl⟩ := e1; exact ⟨_, b', e2⟩
         ·have hc0 := k17 j hn;exact ⟨by rw [aF, if_neg hj]; exact hc0, by rw [aF, if_neg hj]; exact hc0⟩
       ·cases hv
      ·cases hv
     ·cases hv
    ·cases hv
  ·cases h
 ·cases h
end
end Go.PI
