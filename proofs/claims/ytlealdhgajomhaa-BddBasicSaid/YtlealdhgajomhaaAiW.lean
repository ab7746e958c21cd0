/- Appending to a row of one's own. -/
import Derived.Test.YtlealdhgajomhaaAiY
namespace Go.AI
set_option linter.unusedVariables false
set_option linter.unusedSimpArgs false
section
variable {P : Program} {σ : St}
theorem ver_put {id g : Nat} {ob : AObj} : (σ.put id ob).ver g = σ.ver g := rfl
theorem good_tip {z id : Nat} (h : σ.ver id = 0) : σ.good (tipMeta z id) = true := by simp [St.good, tipMeta, h, nbeq]
theorem row_good {id : Nat} {cs : List Value} {m : Mta} (h : σ.row id = some (cs, m)) : σ.good m = true := by
  unfold St.row at h
  split at h
  · rename_i cs' m' e
    cases hg : σ.good m' with
    | true => simp [hg] at h; obtain ⟨rfl, rfl⟩ := h; exact hg
    | false => simp [hg] at h
  · cases h
theorem good_grp {m m' : Mta} (h : m.grp = m'.grp) : σ.good m = σ.good m' := by unfold St.good; rw [h]

/-- a slice of 'n' elements of 'z' cells that owns its row -/
def Own (σ : St) (id z : Nat) (s : Value) (n : Nat) (cs : List Value) : Prop :=
  ∃ k m, s = .slice (some ⟨id, 0, none⟩) n k ∧ id < σ.next ∧ σ.row id = some (cs, m) ∧ cs.length = n * z ∧ m.wr = true ∧ m.z = z ∧ (k = n ∨ (m.tip = true ∧ m.grp.isSome = true))
theorem Own.mono {σ' : St} {id z : Nat} {s : Value} {n : Nat} {cs : List Value} (h : Own σ id z s n cs) (hn : σ.next ≤ σ'.next) (e : σ'.row id = σ.row id) : Own σ' id z s n cs := by
  obtain ⟨k, m, h1, h3, h4, h5⟩ := h
  exact ⟨k, m, h1, by omega, e.trans h4, h5⟩

/-- all but 'a' and 'b' is there still -/
structure But (a b : Nat) (σ σ' : St) : Prop where
  next : σ'.next = σ.next
  vers : σ'.vers = σ.vers
  get : ∀ j, j ≠ a → j ≠ b → σ'.get j = σ.get j
  row : ∀ j, j ≠ a → j ≠ b → σ'.row j = σ.row j
theorem row_put_ne {j id : Nat} {ob : AObj} (h : j ≠ id) : (σ.put id ob).row j = σ.row j := by
  unfold St.row
  rw [St.get_put, if_neg h]; rfl
theorem But.exn {a b n : Nat} {σ' : St} (h : But a b σ σ') (ha : n ≤ a) (hb : n ≤ b) : EXn n σ σ' :=
  ⟨by rw [h.next]; exact Nat.le_refl _, fun j hj => h.get j (by omega) (by omega), fun j hj => h.row j (by omega) (by omega), fun hf g hg => by
    have := hf g (by rw [← h.next]; exact hg)
    unfold St.ver at this ⊢; rw [h.vers]; exact this, fun g _ => by unfold St.ver; rw [h.vers]⟩

theorem grow_own {id z b n x id' : Nat} {s : Value} {cs xs : List Value} (h : Own σ id z s n cs) (hv : σ.ver id' = 0) (hlt : id' < σ.next) (hne : id ≠ id') (hb : (n + x) * b ≤ 1073741824) (hx : xs.length = x * z) :
    ∃ v σ', agrow σ id' z b x xs s = some (v, σ') ∧ Own σ' id' z v (n + x) (cs ++ xs) ∧ But id id' σ σ' := by
  obtain ⟨k, m, rfl, h3, h4, h5, hw, t2, h6⟩ := h
  have hcut : cut cs 0 (n * z) = some cs := by rw [cut_go (by omega)]; simp [← h5]
  have hl : (cs ++ xs).length = (n + x) * z := by rw [List.length_append, h5, hx, Nat.add_mul]
  unfold agrow
  simp only [h4, hcut]
  rw [nble, Bool.cond_decide, if_pos hb]
  by_cases hk : k = n
  · simp only [nbeq, hk, decide_true, cond_true]
    refine ⟨_, _, rfl, ⟨_, tipMeta z id', rfl, hlt, ?_, hl, rfl, rfl, Or.inr ⟨rfl, rfl⟩⟩, rfl, rfl, fun j h1 h2 => ?_, fun j h1 h2 => ?_⟩
    · rw [row_put, if_pos rfl, good_tip hv, if_pos rfl]
    · rw [St.get_put, if_neg h2]
    · exact row_put_ne h2
  · obtain ⟨t1, t3⟩ := h6.resolve_left hk
    have hg := row_good h4
    simp only [nbeq, hk, decide_false, cond_false, t1, hw, t2, h5, Nat.zero_add, decide_true, t3, Bool.and_self, cond_true]
    refine ⟨_, _, rfl, ⟨_, m, rfl, hlt, ?_, hl, hw, t2, Or.inr ⟨t1, t3⟩⟩, rfl, rfl, fun j h1 h2 => ?_, fun j h1 h2 => ?_⟩
    · rw [row_put, if_pos rfl, St.good_put, hg, if_pos rfl]
    · rw [St.get_put, if_neg h2, St.get_put, if_neg h1]
    · rw [row_put_ne h2, row_put_ne h1]

/-- appending to a row of one's own -/
theorem app_own {t t1 e : TypeId} {id z b n x id' : Nat} {zv : Value} {u : TypeDesc} {aops : Array Operand} {s y : Value} {cs xs : List Value} (h : Own σ id z s n cs) (ht : P.underlying t = some (.slice e)) (hu : P.underlying t1 = some u) (hi : infoOf P e = some (z, b, zv))
    (hf : fits u y = true) (hs : aSource σ z y = some (x, xs)) (h1 : xs.all one = true) (hz : 1 ≤ z) (hb1 : 1 ≤ b) (hzv : zv.cells.size = z) (hx0 : x ≠ 0)
    (hv : σ.ver id' = 0) (hlt : id' < σ.next) (hne : id ≠ id') (hb : (n + x) * b ≤ 1073741824) (hx : xs.length = x * z) :
    ∃ v σ', aappend P σ id' ⟨.builtin .append, aops, #[t, t1]⟩ s y = some (v, σ') ∧ Own σ' id' z v (n + x) (cs ++ xs) ∧ But id id' σ σ' := by
  have hsl : isSlice s = true := by obtain ⟨k, m, rfl, _⟩ := h; rfl
  rw [app_eq ht hu hi hf hs h1 hz hb1 hzv hsl hx0]
  exact grow_own h hv hlt hne hb hx
/-- appending to nil -/
theorem app_nil {t t1 e : TypeId} {z b x id' : Nat} {zv : Value} {u : TypeDesc} {aops : Array Operand} {y : Value} {xs : List Value} (ht : P.underlying t = some (.slice e)) (hu : P.underlying t1 = some u) (hi : infoOf P e = some (z, b, zv))
    (hf : fits u y = true) (hs : aSource σ z y = some (x, xs)) (h1 : xs.all one = true) (hz : 1 ≤ z) (hb1 : 1 ≤ b) (hzv : zv.cells.size = z) (hx0 : x ≠ 0)
    (hv : σ.ver id' = 0) (hlt : id' < σ.next) (hb : x * b ≤ 1073741824) (hx : xs.length = x * z) :
    ∃ v σ', aappend P σ id' ⟨.builtin .append, aops, #[t, t1]⟩ (.slice none 0 0) y = some (v, σ') ∧ Own σ' id' z v x xs ∧ But id' id' σ σ' := by
  rw [app_eq ht hu hi hf hs h1 hz hb1 hzv rfl hx0]
  unfold agrow
  simp only
  rw [nble, Bool.cond_decide, if_pos hb]
  refine ⟨_, _, rfl, ⟨_, tipMeta z id', rfl, hlt, ?_, hx, rfl, rfl, Or.inr ⟨rfl, rfl⟩⟩, rfl, rfl, fun j h1 h2 => ?_, fun j h1 h2 => ?_⟩
  · rw [row_put, if_pos rfl, good_tip hv, if_pos rfl]
  · rw [St.get_put, if_neg h2]
  · exact row_put_ne h2
theorem app_go {A : Option (Value × St)} {R K : Value → St → Prop} (h : ∃ v σ', A = some (v, σ') ∧ R v σ') (k : ∀ v σ', R v σ' → K v σ') : ∃ v σ', A = some (v, σ') ∧ K v σ' := by
  obtain ⟨v, σ', h1, h2⟩ := h
  exact ⟨v, σ', h1, k v σ' h2⟩
end
end Go.AI
