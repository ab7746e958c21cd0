/- The law BddValid at the abstract machine. -/
import Derived.Test.YtlealdhgajomhaaBddR
namespace Go.Proofs.Ytlealdhgajomhaa
set_option linter.unusedVariables false
open Go.AI
set_option linter.unusedSimpArgs false

/-! ### the start: two rows that are only read -/
def rdMeta (z : Nat) : Mta := { wr := false, tip := false, z, grp := none }
def stA (cs0 cs1 : List Value) : St := ⟨.node (some (.cells cs0 (rdMeta 3))) (.node (some (.cells cs1 (rdMeta 1))) .nil .nil) .nil, .nil, 2⟩
def nilT : Tr Nat → Bool
  | .nil => true
  | _ => false
def okA : Option (Value × St) → Option (Bool × Option AObj × Option AObj)
  | some (.bool true, σ) => some (nilT σ.vers && Nat.ble 5 σ.next, σ.get 0, σ.get 1)
  | _ => none
theorem awake_runA (cs0 cs1 : List Value) : okA (callF Try.prog 100 100 9 #[] (((stA cs0 cs1).more 1).more 2)) = some (true, some (.cells cs0 (rdMeta 3)), some (.cells cs1 (rdMeta 1))) := by kernel_rfl
theorem okA_some {x : Option (Value × St)} {a b : Option AObj} (h : okA x = some (true, a, b)) : ∃ σ, x = some (.bool true, σ) ∧ Fr σ ∧ 5 ≤ σ.next ∧ σ.get 0 = a ∧ σ.get 1 = b := by
  unfold okA at h
  split at h
  · rename_i σ
    simp only [Option.some.injEq, Prod.mk.injEq, Bool.and_eq_true] at h
    obtain ⟨⟨h1, h2⟩, h3, h4⟩ := h
    refine ⟨σ, rfl, ?_, by simpa [nble] using h2, h3, h4⟩
    obtain ⟨m, v, n⟩ := σ
    cases v with
    | nil => intro g _; rfl
    | node => simp [nilT] at h1
  · cases h
theorem row_of_get {σ : St} {id z : Nat} {cs : List Value} (h : σ.get id = some (.cells cs (rdMeta z))) : σ.row id = some (cs, rdMeta z) := by
  unfold St.row; rw [h]; rfl
theorem awake_A (cs0 cs1 : List Value) : wpc Try.prog 9 #[] (((stA cs0 cs1).more 1).more 2) fun r σ => r = .bool true ∧ Fr σ ∧ 5 ≤ σ.next ∧ σ.row 0 = some (cs0, rdMeta 3) ∧ σ.row 1 = some (cs1, rdMeta 1) := by
  obtain ⟨σ, h1, h2, h3, h4, h5⟩ := okA_some (awake_runA cs0 cs1)
  exact ⟨100, .bool true, σ, h1, rfl, h2, h3, row_of_get h4, row_of_get h5⟩

/-! ### one's own row of vertices -/
theorem flat_set0 {l : List Vtx} {k : Nat} (h : k < l.length) (x : Int) : (flat l).set (k * 3) (.int .i64 x) = flat (l.set k (x, (vx l k).2)) := by
  induction l generalizing k with
  | nil => simp at h
  | cons v l ih =>
    cases k with
    | zero => simp [flat, cell3, vx]
    | succ k =>
      have := ih (k := k) (by simpa using h)
      rw [show (k + 1) * 3 = k * 3 + 3 by omega]
      simp only [flat, cell3, List.cons_append, List.nil_append, List.set_cons_succ, this, List.set_cons_succ]
      simp [vx]
theorem flat_set1 {l : List Vtx} {k : Nat} (h : k < l.length) (x : Int) : (flat l).set (k * 3 + 1) (.int .i64 x) = flat (l.set k ((vx l k).1, x, (vx l k).2.2)) := by
  induction l generalizing k with
  | nil => simp at h
  | cons v l ih =>
    cases k with
    | zero => simp [flat, cell3, vx]
    | succ k =>
      have := ih (k := k) (by simpa using h)
      rw [show (k + 1) * 3 + 1 = k * 3 + 1 + 3 by omega]
      simp only [flat, cell3, List.cons_append, List.nil_append, List.set_cons_succ, this]
      simp [vx]
theorem flat_set2 {l : List Vtx} {k : Nat} (h : k < l.length) (x : Int) : (flat l).set (k * 3 + 2) (.int .i64 x) = flat (l.set k ((vx l k).1, (vx l k).2.1, x)) := by
  induction l generalizing k with
  | nil => simp at h
  | cons v l ih =>
    cases k with
    | zero => simp [flat, cell3, vx]
    | succ k =>
      have := ih (k := k) (by simpa using h)
      rw [show (k + 1) * 3 + 2 = k * 3 + 2 + 3 by omega]
      simp only [flat, cell3, List.cons_append, List.nil_append, List.set_cons_succ, this]
      simp [vx]
/-- a store into a row that was appended to nil: what is in no group is as it was -/
theorem st_tip {σ : St} {V off : Nat} {cs : List Value} {x : Int} {ρ : Option (List Value × Mta)} (hρ : ρ = some (cs, tipMeta 3 V)) (hV : V < σ.next) (ho : off + 1 ≤ cs.length) (hF : Fr σ) {K : St → Prop}
    (k : ∀ σ' m, σ'.row V = some (cs.set off (.int .i64 x), m3 m) → Fr σ' → σ'.next = σ.next → (∀ j cs' m, j ≠ V → m.grp = none → σ.row j = some (cs', m) → σ'.row j = some (cs', m)) → K σ') :
    ex1 (ρ.bind fun r => stw σ V off 1 (.int .i64 x) r.1 r.2) K := by
  rw [hρ]
  simp only [Option.bind_some]
  have hput : putAt cs off [Value.int .i64 x] = cs.set off (.int .i64 x) := rfl
  have hcond : ((tipMeta 3 V).wr && Nat.beq (Value.cells (.int .i64 x)).size 1 && Nat.ble (off + 1) cs.length && (Value.cells (.int .i64 x)).toList.all one) = true := by
    rw [nble, decide_eq_true ho]; rfl
  have hcl : (Value.cells (.int .i64 x)).toList = [.int .i64 x] := rfl
  refine ⟨(σ.put V (.cells (cs.set off (.int .i64 x)) { tipMeta 3 V with grp := some (V, 1) })).bump V 1, ?_, k _ { tipMeta 3 V with grp := some (V, 1) } ?_ ?_ rfl ?_⟩
  · unfold stw; rw [hcond, hcl, hput]; rfl
  · unfold St.row
    rw [St.get_bump, St.get_put, if_pos rfl]
    simp only [St.good, St.ver_bump, if_true]; rfl
  · intro g hg
    rw [St.ver_bump, if_neg (by rw [St.next_bump, next_put] at hg; omega)]
    exact hF g hg
  · intro j cs' m hj hm hr
    obtain ⟨h1, h2⟩ := St.row_some hr
    unfold St.row
    rw [St.get_bump, St.get_put, if_neg hj, h1]
    simp [St.good, hm]
theorem app_nil' {P : Program} {σ : St} {t t1 e : TypeId} {z b x id' : Nat} {zv : Value} {u : TypeDesc} {ops : Array Operand} {y : Value} {xs : List Value} (ht : P.underlying t = some (.slice e)) (hu : P.underlying t1 = some u) (hi : infoOf P e = some (z, b, zv))
    (hf : fits u y = true) (hs : aSource σ z y = some (x, xs)) (h1 : xs.all one = true) (hz : 1 ≤ z) (hb1 : 1 ≤ b) (hzv : zv.cells.size = z) (hx0 : x ≠ 0) (hb : x * b ≤ 1073741824) :
    aappend P σ id' ⟨.builtin .append, ops, #[t, t1]⟩ (.slice none 0 0) y = some (.slice (some ⟨id', 0, none⟩) x (x + 1), σ.put id' (.cells xs (tipMeta z id'))) := by
  rw [app_eq ht hu hi hf hs h1 hz hb1 hzv rfl hx0]
  unfold agrow
  simp only
  rw [nble, Bool.cond_decide, if_pos hb]
theorem flat_one (l : List Vtx) : (flat l).all one = true := by
  induction l with
  | nil => rfl
  | cons v l ih => simp [flat, cell3, ih, one]

/-- an argument: nothing, or a slice of a row -/
def ArgS (id n : Nat) (v : Value) : Prop := ∃ o c, v = .slice o n c ∧ (0 < n → o = some ⟨id, 0, none⟩) ∧ (n = 0 → c = 0)
end Go.Proofs.Ytlealdhgajomhaa
