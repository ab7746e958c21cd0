/- Reading and writing: the model does what the abstract machine does. -/
import Derived.Test.YtlealdhgajomhaaAiPure
namespace Go.AI
set_option linter.unusedVariables false
set_option linter.unusedSimpArgs false

section
variable {w0 : World} {P : Program} {μ : Mp} {σ : St} {w : World}

/-! ### reading -/
theorem cut_some {cs l : List Value} {off n : Nat} (h : cut cs off n = some l) : l = (cs.drop off).take n ∧ n ≤ cs.length - off := by
  unfold cut at h
  simp only [nbeq, Bool.cond_decide] at h
  split at h
  · rename_i hl; cases h; refine ⟨rfl, ?_⟩; simp at hl; omega
  · cases h

theorem row_cut {C : Array Value} {cs : List Value} {o off n : Nat} (hrow : ∀ (i : Nat) (v : Value), cs[i]? = some v → ∃ u, C[o + i]? = some u ∧ VR μ v u) (hl : n ≤ cs.length - off) :
    VRL μ ((cs.drop off).take n) ((C.toList.drop (o + off)).take n) := by
  have hsz : n = 0 ∨ o + off + n ≤ C.size := by
    rcases Nat.eq_zero_or_pos n with h | h
    · exact .inl h
    · right
      have : off + n - 1 < cs.length := by omega
      obtain ⟨u, hu, _⟩ := hrow (off + n - 1) _ (List.getElem?_eq_getElem this)
      have := (Array.getElem?_eq_some_iff.1 hu).1
      omega
  refine ⟨by simp; omega, fun i x u hx hu => ?_⟩
  rw [List.getElem?_take] at hx hu
  split at hx
  · rename_i hi
    rw [if_pos hi] at hu
    rw [List.getElem?_drop] at hx hu
    obtain ⟨u', hu', hr⟩ := hrow _ _ hx
    have : C.toList[o + off + i]? = some u' := by rw [Nat.add_assoc]; simpa using hu'
    rw [this] at hu
    cases hu
    exact hr
  · cases hx

theorem cell_eq {w : World} {b o : Nat} {C : Array Value} {t : TypeId} {fr : Nat × Nat} (h : w.heap[b]? = some (.cells C t fr)) : w.cell? ⟨b, o, none⟩ = C[o]? := by
  simp [World.cell?, h]

theorem run_cut {w : World} {b o n : Nat} {C : Array Value} {t : TypeId} {fr : Nat × Nat} (h : w.heap[b]? = some (.cells C t fr)) (hl : ((C.toList.drop o).take n).length = n) :
    (loadCells ⟨b, o, none⟩ n).run P w = .ok ((C.toList.drop o).take n).toArray w := by
  have := run_loadCells_list (P := P) w ⟨b, o, none⟩ ((C.toList.drop o).take n) (fun j v hj => by
    rw [add_none, cell_eq h]
    rw [List.getElem?_take] at hj
    split at hj
    · rw [List.getElem?_drop] at hj; simpa using hj
    · cases hj)
  rw [hl] at this
  exact this

theorem aload_ok {t : TypeId} {a b v : Value} (S : Sim w0 P μ σ w) (r : VR μ a b) (h : aload P σ t a = some v) : ∃ v', (Instr.loadAt t b).run P w = .ok v' w ∧ VR μ v v' := by
  unfold aload at h
  split at h <;> try cases h
  rename_i id off
  obtain ⟨p, hp, rfl⟩ := r.ptr_inv
  split at h <;> try cases h
  rename_i cs m hrow
  obtain ⟨hg, hgood⟩ := St.row_some hrow
  obtain ⟨C, ty, fr, hC, hcs, _⟩ := (S.row id p cs m hp hg hgood).row
  unfold Instr.loadAt
  simp only [Instr.sureAddr, loadVar, Sem.run_bind, Sem.run_pure, Result.andThen_ok]
  split at h <;> try cases h
  · rename_i hag
    rw [still_run (by rw [still_isAgg]; exact hag)]
    split at h <;> try cases h
    rename_i n hn
    rw [Option.map_eq_some_iff] at h
    obtain ⟨l, hl, rfl⟩ := h
    obtain ⟨rfl, hle⟩ := cut_some hl
    have hv := row_cut hcs hle
    refine ⟨_, ?_, .mkAgg hv⟩
    have hlen : ((C.toList.drop (p.o + off)).take n).length = n := by rw [← hv.1]; simp; omega
    simp only [Result.andThen_ok, if_true, Sem.run_bind, still_run (w := w) (show still P (Go.sizeOf t) = some n by rw [still_sizeOf]; exact hn), run_cut hC hlen, Sem.run_pure]
  · rename_i hag
    rw [still_run (by rw [still_isAgg]; exact hag)]
    obtain ⟨u, hu, hr⟩ := hcs _ _ h
    refine ⟨u, ?_, hr⟩
    simp [cell_eq hC, hu]

theorem rowZ_ok (S : Sim w0 P μ σ w) (id : Nat) (p : Place) (z : Nat) (hp : μ id = some p) (h : rowZ σ id z = true) : p.z = z := by
  unfold rowZ at h
  split at h
  · rename_i cs m hrow
    obtain ⟨hg, hgood⟩ := St.row_some hrow
    rw [nbeq, decide_eq_true_eq] at h
    rw [← h]; exact (S.row id p cs m hp hg hgood).z
  · cases h

/-! ### maps -/
def FR (μ : Mp) : Option (Nat × Value) → Option (Nat × Value) → Prop
  | none, none => True
  | some (i, v), some (j, u) => i = j ∧ VR μ v u
  | _, _ => False

theorem keys_cons {k v : Value} {es : List (Value × Value)} {ES : List MapEntry} (hk : VRL μ (((k, v) :: es).map (·.1)) (ES.map (·.key))) (hv : VRL μ (((k, v) :: es).map (·.2)) (ES.map (·.val))) :
    ∃ E ES', ES = E :: ES' ∧ VR μ k E.key ∧ VR μ v E.val ∧ VRL μ (es.map (·.1)) (ES'.map (·.key)) ∧ VRL μ (es.map (·.2)) (ES'.map (·.val)) := by
  cases ES with
  | nil => have := hk.1; simp at this
  | cons E ES' =>
    simp only [List.map_cons] at hk hv
    obtain ⟨u, us, e1, h1, h2⟩ := hk.cons_inv
    obtain ⟨u', us', e2, h3, h4⟩ := hv.cons_inv
    cases e1; cases e2
    exact ⟨E, ES', rfl, h1, h3, h2, h4⟩

theorem findNow_ok (d : TypeDesc) (k : Value) : ∀ (es : List (Value × Value)) (ES : List MapEntry) (i : Nat), VRL μ (es.map (·.1)) (ES.map (·.key)) → VRL μ (es.map (·.2)) (ES.map (·.val)) →
    es.all (fun e => plain1 e.1) = true →
    (Instr.findNow d k (entries es) i = none ∧ Instr.findNow d k ES i = none) ∨ ∃ r r', Instr.findNow d k (entries es) i = some r ∧ Instr.findNow d k ES i = some r' ∧ FR μ r r' := by
  intro es
  induction es with
  | nil =>
    intro ES i hk hv _
    have : ES = [] := by have := hk.1; simpa using this.symm
    subst this
    exact .inr ⟨none, none, rfl, rfl, trivial⟩
  | cons e es ih =>
    intro ES i hk hv hp
    obtain ⟨k', v'⟩ := e
    obtain ⟨E, ES', rfl, h1, h2, h3, h4⟩ := keys_cons hk hv
    simp only [List.all_cons, Bool.and_eq_true] at hp
    have hkey : E.key = k' := h1.eq1 hp.1
    simp only [entries, List.map_cons, Instr.findNow, hkey]
    cases Instr.sameNow d k k' with
    | none => exact .inl ⟨rfl, rfl⟩
    | some b =>
      cases b with
      | true => exact .inr ⟨_, _, rfl, rfl, rfl, h2⟩
      | false => exact ih ES' (i + 1) h3 h4 hp.2

theorem findAsking_ok (kt : TypeId) (k : Value) : ∀ (es : List (Value × Value)) (ES : List MapEntry) (i : Nat) (r : Option (Nat × Value)), VRL μ (es.map (·.1)) (ES.map (·.key)) → VRL μ (es.map (·.2)) (ES.map (·.val)) →
    es.all (fun e => plain1 e.1) = true → still P (Instr.findAsking kt k (entries es) i) = some r → ∃ r', still P (Instr.findAsking kt k ES i) = some r' ∧ FR μ r r' := by
  intro es
  induction es with
  | nil =>
    intro ES i r hk hv _ h
    have : ES = [] := by have := hk.1; simpa using this.symm
    subst this
    simp only [entries, List.map_nil, Instr.findAsking, still_pure, Option.some.injEq] at h
    subst h
    exact ⟨none, rfl, trivial⟩
  | cons e es ih =>
    intro ES i r hk hv hp h
    obtain ⟨k', v'⟩ := e
    obtain ⟨E, ES', rfl, h1, h2, h3, h4⟩ := keys_cons hk hv
    simp only [List.all_cons, Bool.and_eq_true] at hp
    have hkey : E.key = k' := h1.eq1 hp.1
    simp only [entries, List.map_cons, Instr.findAsking, still_bind] at h
    simp only [Instr.findAsking, still_bind, hkey]
    cases hq : still P (Op.equal kt k k') with
    | none => simp [hq] at h
    | some b =>
      simp only [hq, Option.bind_some] at h ⊢
      cases b with
      | true => simp only [if_true, still_pure, Option.some.injEq] at h ⊢; subst h; exact ⟨_, rfl, rfl, h2⟩
      | false => simp only [Bool.false_eq_true, if_false] at h ⊢; exact ih ES' (i + 1) r h3 h4 hp.2 h

theorem afind_ok {kt : TypeId} {k : Value} {es : List (Value × Value)} {ES : List MapEntry} {r : Option (Nat × Value)} (hk : VRL μ (es.map (·.1)) (ES.map (·.key))) (hv : VRL μ (es.map (·.2)) (ES.map (·.val)))
    (h : afind P kt k es = some r) : plain1 k = true ∧ es.all (fun e => plain1 e.1) = true ∧ (∀ b, still P (Instr.checkKey b 10000 kt k) = some ()) ∧ ∃ r', still P (Instr.findKey kt k ES) = some r' ∧ FR μ r r' := by
  unfold afind at h
  cases hp : (plain1 k && es.all (fun e => plain1 e.1)) with
  | false => simp only [hp, cond_false] at h; cases h
  | true =>
    simp only [hp, cond_true] at h
    simp only [Bool.and_eq_true] at hp
    split at h <;> try cases h
    rename_i u1 u2 h1 h2
    refine ⟨hp.1, hp.2, fun b => by cases b; exact h1; exact h2, ?_⟩
    unfold Instr.findKey at h ⊢
    simp only [still_bind, still_underlying] at h ⊢
    cases hu : P.underlying kt with
    | none => simp [hu] at h
    | some d =>
      simp only [hu, Option.bind_some] at h ⊢
      rcases findNow_ok (μ := μ) d k es ES 0 hk hv hp.2 with ⟨e1, e2⟩ | ⟨r1, r2, e1, e2, hr⟩
      · simp only [e1] at h
        simp only [e2]
        exact findAsking_ok kt k es ES 0 r hk hv hp.2 h
      · simp only [e1, still_pure, Option.some.injEq] at h
        subst h
        exact ⟨r2, by simp only [e2, still_pure], hr⟩

theorem run_getObj_map {w : World} {b : Nat} {ES : Array MapEntry} {c : Nat} (h : w.heap[b]? = some (.map ES c)) : (getObj b).run P w = .ok (.map ES c) w := by
  simp [getObj, Sem.run, h]

theorem alookup_ok {t : TypeId} {m m' k k' v : Value} {ok : Bool} (S : Sim w0 P μ σ w) (rm : VR μ m m') (rk : VR μ k k') (h : alookup P σ t m k ok = some v) :
    ∃ v', (Instr.lookup t m' k' ok).run P w = .ok v' w ∧ VR μ v v' := by
  unfold alookup at h
  split at h <;> try cases h
  rename_i kt et hu
  have hes : ∃ es ES, mapOf σ m = some es ∧
      VRL μ (es.map (·.1)) (ES.toList.map (·.key)) ∧ VRL μ (es.map (·.2)) (ES.toList.map (·.val)) ∧
      ((m' = .map none ∧ ES = #[]) ∨ ∃ b c, m' = .map (some b) ∧ w.heap[b]? = some (.map ES c)) := by
    cases he : mapOf σ m with
    | none => simp [he] at h
    | some es =>
      unfold mapOf at he
      split at he <;> try cases he
      · obtain rfl := rm.eq0 rfl
        exact ⟨[], #[], rfl, .nil, .nil, .inl ⟨rfl, rfl⟩⟩
      · rename_i id
        split at he <;> try cases he
        rename_i hg
        cases rm with
        | same _ h => simp [plain0] at h
        | mp _ p hp =>
          obtain ⟨ES, c, hC, h1, h2⟩ := (S.map id p es hp hg).map
          exact ⟨es, ES, rfl, h1, h2, .inr ⟨p.b, c, rfl, hC⟩⟩
  obtain ⟨es, ES, he, hk, hv, hm⟩ := hes
  rw [he] at h
  simp only at h
  cases hf : afind P kt k es with
  | none => simp [hf] at h
  | some r =>
    obtain ⟨hpk, _, hchk, r', hfind, hFR⟩ := afind_ok (ES := ES.toList) hk hv hf
    obtain rfl := rk.eq1 hpk
    simp only [hf] at h
    have key : ∀ (val : Value) (found : Bool), (match r' with | some (_, u) => Result.ok (α := Value × Bool) (u, true) w | none => ((zeroValue et).run P w).andThen fun z w' => .ok (z, false) w') = .ok (val, found) w →
        (Instr.lookup t m' k' ok).run P w = .ok (if ok = true then .tuple #[val, .bool found] else val) w := by
      intro val found hres
      unfold Instr.lookup
      simp only [Sem.run_bind, still_run (w := w) (show still P (underlying t) = some (.map kt et) by rw [still_underlying]; exact hu), Result.andThen_ok]
      rcases hm with ⟨rfl, rfl⟩ | ⟨b, c, rfl, hC⟩
      · simp only [Sem.run_bind, Sem.run_pure, Result.andThen_ok, still_run (w := w) (hchk _), still_run (w := w) hfind]
        cases r' with
        | none =>
          simp only [Sem.run_bind] at hres ⊢
          cases hz : (zeroValue et).run P w with
          | ok z wz => simp only [hz, Result.andThen_ok] at hres ⊢; cases hres; rfl
          | halt x wz => simp [hz] at hres
        | some iu => cases hres; rfl
      · simp only [Sem.run_bind, run_getObj_map hC, Sem.run_pure, Result.andThen_ok, still_run (w := w) (hchk _), still_run (w := w) hfind]
        cases r' with
        | none =>
          simp only [Sem.run_bind] at hres ⊢
          cases hz : (zeroValue et).run P w with
          | ok z wz => simp only [hz, Result.andThen_ok] at hres ⊢; cases hres; rfl
          | halt x wz => simp [hz] at hres
        | some iu => cases hres; rfl
    have pair : ∀ (val val' : Value) (found : Bool), VR μ val val' → VR μ (bif ok then .tuple #[val, .bool found] else val) (if ok = true then .tuple #[val', .bool found] else val') := by
      intro val val' found hr
      cases ok with
      | true => exact .mkTuple (.cons hr (.cons (.same _ rfl) .nil))
      | false => exact hr
    cases r with
    | none =>
      cases r' with
      | some x => exact hFR.elim
      | none =>
        simp only at h
        cases hz : still P (zeroValue et) with
        | none => simp [hz] at h
        | some z =>
          simp only [hz] at h
          cases hpz : plain1 z with
          | false => simp [hpz] at h
          | true =>
            simp only [hpz, cond_true, Option.some.injEq] at h
            subst h
            exact ⟨_, key z false (by simp [still_run hz]), pair z z false (.same1 hpz)⟩
    | some iv =>
      obtain ⟨i, val⟩ := iv
      cases r' with
      | none => exact hFR.elim
      | some ju =>
        obtain ⟨j, u⟩ := ju
        obtain ⟨rfl, hr⟩ := hFR
        simp only [Option.some.injEq] at h
        subst h
        exact ⟨_, key u true rfl, pair val u true hr⟩

/-- **Operations that read.** -/
theorem aread_ok {ρ ρ' : Operand → Value} {o : Oper} {v : Value} (S : Sim w0 P μ σ w) (hρ : ∀ x ∈ o.op.operands, VR μ (ρ x) (ρ' x)) (h : aread P σ ρ o = some v) :
    ∃ v', (execOp ρ' o).run P w = .ok (.value v') w ∧ VR μ v v' := by
  unfold aread at h
  unfold execOp
  cases ho : o.op <;> simp only [ho] at h hρ ⊢ <;> try cases h
  case load t a =>
    obtain ⟨v', h1, h2⟩ := aload_ok S (hρ a (by simp [Op.operands])) h
    exact ⟨v', by simp [h1], h2⟩
  case lookup t m k ok =>
    obtain ⟨v', h1, h2⟩ := alookup_ok S (hρ m (by simp [Op.operands])) (hρ k (by simp [Op.operands])) h
    exact ⟨v', by simp [h1], h2⟩
  case slice t x lo hi mx =>
    obtain ⟨v', h1, h2⟩ := aslice_ok (μ := μ) (P := P) (rowZ_ok S) (hρ x (by simp [Op.operands])) (OR_map lo fun y hy => hρ y (by simp [Op.operands, hy])) (OR_map hi fun y hy => hρ y (by simp [Op.operands, hy]))
      (OR_map mx fun y hy => hρ y (by simp [Op.operands, hy])) h
    exact ⟨v', by simp [still_run h1], h2⟩

end
end Go.AI
