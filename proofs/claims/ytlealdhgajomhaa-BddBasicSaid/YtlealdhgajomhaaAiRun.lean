/- One operation; a region in the order of its text. -/
import Derived.Test.YtlealdhgajomhaaAiApp
namespace Go.AI
set_option linter.unusedVariables false
set_option linter.unusedSimpArgs false

section
variable {w0 : World} {P : Program} {μ : Mp} {σ : St} {w : World}

/-- the frame -/
structure AR (μ : Mp) (S : Slots) (N : Nat) (a : Act) : Prop where
  size : N ≤ a.tmps.size
  defers : a.defers = []
  slot : ∀ i, VR μ (S.at i) (a.tmps.getD i undef)

theorem AR.mono {S : Slots} {N : Nat} {a : Act} {μ' : Mp} (A : AR μ S N a) (h : ∀ k p, μ k = some p → μ' k = some p) : AR μ' S N a := ⟨A.size, A.defers, fun i => (A.slot i).mono' h⟩

theorem Slots.at_store (S : Slots) (d : Option Tmp) (v : Value) (i : Nat) : (S.store d v).at i = if d = some i then v else S.at i := by
  cases d with
  | none => simp [Slots.store]
  | some d =>
    simp only [Slots.store, Slots.at, Tr.get_set, Option.some.injEq]
    by_cases e : i = d
    · subst e; simp
    · rw [if_neg e, if_neg (Ne.symm e)]

theorem getD_put (a : Act) (d : Option Tmp) (v : Value) (i : Nat) (h : ∀ t, d = some t → t < a.tmps.size) : (a.put d v).tmps.getD i undef = if d = some i then v else a.tmps.getD i undef := by
  cases d with
  | none => simp [Act.put]
  | some d =>
    have hd := h d rfl
    simp only [Act.put, Option.some.injEq, Array.getD_eq_getD_getElem?]
    by_cases e : d = i
    · subst e; rw [if_pos rfl, Array.getElem?_setIfInBounds_self_of_lt hd]; rfl
    · rw [if_neg e, Array.getElem?_setIfInBounds_ne e]

theorem AR.put {S : Slots} {N : Nat} {a : Act} (A : AR μ S N a) {d : Option Tmp} (hd : ∀ t, d = some t → t < N) {v v' : Value} (r : VR μ v v') : AR μ (S.store d v) N (a.put d v') := by
  refine ⟨?_, ?_, fun i => ?_⟩
  · have := A.size; cases d <;> simp [Act.put, this]
  · cases d <;> simp [Act.put, A.defers]
  · rw [Slots.at_store, getD_put _ _ _ _ (fun t e => Nat.lt_of_lt_of_le (hd t e) A.size)]
    split
    · exact r
    · exact A.slot i

theorem ev_ok {S : Slots} {N : Nat} {a : Act} (A : AR μ S N a) (Z : Sim w0 P μ σ w) {x : Operand} (h : okOperand P x = true) : VR μ (ev S x) (a.eval x) := by
  cases x with
  | tmp t => exact A.slot t
  | const v => exact .same1 h
  | global g =>
    simp only [okOperand, nblt, decide_eq_true_eq] at h
    obtain ⟨p, hp, hb, ho⟩ := Z.glob g h
    have := VR.ptr (μ := μ) g 0 p hp
    rw [hb, ho] at this
    exact this
  | func f => exact .fn _ _ _ _ _ rfl (fun i x u h => by simp at h) rfl (fun i x u h => by simp at h)

theorem VR.of_bool {x : Value} {b : Bool} (r : VR μ x (.bool b)) : x = .bool b := by cases r; rfl

theorem wanted_ok' {S : Slots} {a : Act} (ops : Array Oper) (o : Oper) (A : ∀ j want d, o.guard = some (j, want) → ops[j]?.bind (·.dst) = some d → VR μ (S.at d) (a.tmps.getD d undef)) : wanted ops S o = Region.wanted o (yielded ops a.tmps) := by
  unfold wanted Region.wanted
  cases hg : o.guard with
  | none => rfl
  | some jw =>
    obtain ⟨j, want⟩ := jw
    simp only [yielded]
    cases hd : ops[j]?.bind (·.dst) with
    | none => simp
    | some d =>
      simp only [Option.map_some, Option.bind_some]
      have r := A j want d hg hd
      rw [Array.getD_eq_getD_getElem?] at r
      cases ht : a.tmps[d]? with
      | none =>
        rw [ht] at r
        simp only [Option.getD_none] at r
        cases hs : S.at d <;> first | rfl | skip
        rw [hs] at r
        have := r.bool_inv
        cases this
      | some u =>
        rw [ht] at r
        simp only [Option.getD_some] at r
        cases hs : S.at d with
        | bool b => rw [hs] at r; rw [r.bool_inv]; cases b <;> cases want <;> rfl
        | _ =>
          cases u with
          | bool b => rw [r.of_bool] at hs; cases hs
          | _ => rfl

theorem wanted_ok {S : Slots} {N : Nat} {a : Act} (A : AR μ S N a) (ops : Array Oper) (o : Oper) : wanted ops S o = Region.wanted o (yielded ops a.tmps) :=
  wanted_ok' ops o (fun _ _ d _ _ => A.slot d)

/-- what is asked of calls -/
def CallOK (w0 : World) (P : Program) (call : FuncId → Array Value → St → Option (Value × St)) : Prop :=
  ∀ f args args' σ σ' w μ r, call f args σ = some (r, σ') → Sim w0 P μ σ w → VRL μ args.toList args'.toList →
    (∃ fn c, P.funcs[f]? = some fn ∧ fn.body = some c ∧ (fn.name == "runtime.NumGoroutine") = false) ∧
    Calls P f args' w fun e w' => ∃ μ' r', e = .returned r' ∧ VR μ' r r' ∧ Sim w0 P μ' σ' w' ∧ Ext σ.next μ μ' ∧ σ.next ≤ σ'.next

/-- what one operation leaves -/
def Left (w0 : World) (P : Program) (μ : Mp) (σ σ' : St) (id : Nat) (a : Act) (o : Oper) (v : Value) (a' : Act) (w' : World) : Prop :=
  ∃ μ' v', a' = a.put o.dst v' ∧ VR μ' v v' ∧ Sim w0 P μ' σ' w' ∧ (∀ k p, μ k = some p → μ' k = some p) ∧ (∀ k, k < σ.next → k ≠ id → μ' k = μ k) ∧ σ.next ≤ σ'.next

theorem wp_value {a : Act} {o : Oper} {v' : Value} {w' : World} {K : Act → World → Prop} {Q : Exit → Act → World → Prop} (h : (execOp a.eval o).run P w = .ok (.value v') w') (k : K (a.put o.dst v') w') : o.wp P a w K Q := by
  unfold Oper.wp; rw [h]; exact k
theorem wp_skip' {a : Act} {o : Oper} {w' : World} {K : Act → World → Prop} {Q : Exit → Act → World → Prop} (h : (execOp a.eval o).run P w = .ok .skip w') (k : K (a.put o.dst undef) w') : o.wp P a w K Q := by
  unfold Oper.wp; rw [h]; exact k

theorem read_wp {ρ : Operand → Value} {a : Act} {o : Oper} {v : Value} {Q : Exit → Act → World → Prop} (id : Nat) (Z : Sim w0 P μ σ w) (hρ : ∀ x ∈ o.op.operands, VR μ (ρ x) (a.eval x)) (h : aread P σ ρ o = some v) :
    o.wp P a w (Left w0 P μ σ σ id a o v) Q := by
  obtain ⟨v', h1, h2⟩ := aread_ok Z hρ h
  exact wp_value h1 ⟨μ, v', rfl, h2, Z, fun _ _ h => h, fun _ _ _ => rfl, Nat.le_refl _⟩

theorem pure_wp {ρ : Operand → Value} {a : Act} {o : Oper} {v : Value} {Q : Exit → Act → World → Prop} (id : Nat) (Z : Sim w0 P μ σ w) (hρ : ∀ x ∈ o.op.operands, VR μ (ρ x) (a.eval x)) (h : apure P ρ o = some v) :
    o.wp P a w (Left w0 P μ σ σ id a o v) Q := by
  obtain ⟨v', h1, h2⟩ := apure_ok (μ := μ) hρ h
  exact wp_value (still_run h1 w) ⟨μ, v', rfl, h2, Z, fun _ _ h => h, fun _ _ _ => rfl, Nat.le_refl _⟩

theorem alloc_wp {ρ : Operand → Value} {a : Act} {o : Oper} {v : Value} {ob : AObj} {id : Nat} {Q : Exit → Act → World → Prop} (Z : Sim w0 P μ σ w) (hρ : ∀ x ∈ o.op.operands, VR μ (ρ x) (a.eval x))
    (hid : μ id = none) (hlt : id < σ.next) (h : aalloc P ρ o id = some (v, ob)) (hob : σ.get id = some ob) : o.wp P a w (Left w0 P μ σ σ id a o v) Q := by
  obtain ⟨v', O, p, h1, hb, ho, hN, hv⟩ := aalloc_ok (μ := μ) w hρ h
  exact wp_value h1 ⟨upd μ id p, v', rfl, hv _ (upd_same _ _ _), Z.alloc hid hlt hob hN hb ho, upd_ext p hid, fun k _ hk => upd_ne hk, Nat.le_refl _⟩

theorem alloc_vers {ρ : Operand → Value} {o : Oper} {id : Nat} {v : Value} {ob : AObj} (h : aalloc P ρ o id = some (v, ob)) : ∀ cs m g u, ob = .cells cs m → m.grp = some (g, u) → u ≤ 0 := by
  intro cs m g u e hg
  subst e
  unfold aalloc at h
  split at h <;> try cases h
  · split at h <;> try cases h
    simp only [cond_eq_ite] at h; split at h <;> cases h; cases hg
  · simp only [cond_eq_ite] at h; split at h <;> cases h; cases hg
  · split at h <;> try cases h
    split at h <;> try cases h
    split at h <;> try cases h
    simp only [cond_eq_ite] at h; split at h <;> try cases h
    rw [Option.map_eq_some_iff] at h
    obtain ⟨_, _, e⟩ := h; cases e; cases hg
  · split at h <;> try cases h
    split at h <;> try cases h
    split at h <;> try cases h
    simp only [cond_eq_ite] at h; split at h <;> try cases h
    split at h <;> cases h
    · cases hg
    · simp only [Option.some.injEq, Prod.mk.injEq] at hg; omega
  · rename_i t r _
    cases hb : hintOK P ρ t r <;> rw [hb] at h <;> cases h

theorem eff_wp {call : FuncId → Array Value → St → Option (Value × St)} (hcall : CallOK w0 P call) {S : Slots} {a : Act} {o : Oper} {v : Value} {σ' : St} {id : Nat} {Q : Exit → Act → World → Prop}
    (Z : Sim w0 P μ σ w) (hρ : ∀ x ∈ o.op.operands, VR μ (ev S x) (a.eval x)) (hid : μ id = none) (hlt : id < σ.next) (h : aeff P call σ (ev S) o id = some (v, σ')) :
    o.wp P a w (Left w0 P μ σ σ' id a o v) Q := by
  unfold aeff at h
  cases ho : o.op <;> simp only [ho] at h hρ <;> try cases h
  case store t p x =>
    rw [Option.map_eq_some_iff] at h
    obtain ⟨σ1, h, he⟩ := h
    cases he
    obtain ⟨w', h1, h2, h3⟩ := astore_ok Z (hρ p (by simp [Op.operands])) (hρ x (by simp [Op.operands])) h
    refine wp_skip' (w' := w') ?_ ⟨μ, undef, rfl, .undef, h2, fun _ _ h => h, fun _ _ _ => rfl, by omega⟩
    unfold execOp; rw [ho]; simp [h1]
  case insert t m k x =>
    rw [Option.map_eq_some_iff] at h
    obtain ⟨σ1, h, he⟩ := h
    cases he
    obtain ⟨w', h1, h2, h3⟩ := amapUpdate_ok Z (hρ m (by simp [Op.operands])) (hρ k (by simp [Op.operands])) (hρ x (by simp [Op.operands])) h
    refine wp_skip' (w' := w') ?_ ⟨μ, undef, rfl, .undef, h2, fun _ _ h => h, fun _ _ _ => rfl, by omega⟩
    unfold execOp; rw [ho]; simp [h1]
  case mapUpdate t m k x =>
    rw [Option.map_eq_some_iff] at h
    obtain ⟨σ1, h, he⟩ := h
    cases he
    obtain ⟨w', h1, h2, h3⟩ := amapUpdate_ok Z (hρ m (by simp [Op.operands])) (hρ k (by simp [Op.operands])) (hρ x (by simp [Op.operands])) h
    refine wp_skip' (w' := w') ?_ ⟨μ, undef, rfl, .undef, h2, fun _ _ h => h, fun _ _ _ => rfl, by omega⟩
    unfold execOp; rw [ho]; simp [h1]
  case call c =>
    have hargs := VRL_map (μ := μ) (ρ := ev S) (ρ' := a.eval) c.args.toList (fun x hx => hρ x (callee_operands c x hx))
    split at h
    · rename_i hc
      split at h <;> try cases h
      rename_i s x hsx
      have hs' : c.args = #[s, x] := by apply Array.toList_inj.1; rw [hsx]
      obtain ⟨v', w', μ', h1, h2, h3, h4, h5, h6⟩ := aappend_ok (ty := o.type) Z (hρ s (callee_operands c s (by rw [hsx]; simp))) (hρ x (callee_operands c x (by rw [hsx]; simp))) hid hlt h
      refine wp_value (v' := v') (w' := w') ?_ ⟨μ', v', rfl, h2, h3, h4, fun k _ hk => h5 k hk, by omega⟩
      unfold execOp; rw [ho]
      simp only [resolve, hc, Sem.run_bind, Sem.run_pure, Result.andThen_ok, invoke, builtin]
      rw [hs']
      simp [h1]
    · split at h <;> try cases h
      rename_i g args hcal
      unfold acallee at hcal
      split at hcal <;> try cases hcal
      rename_i f hc
      split at hcal <;> try cases hcal
      rename_i first captured hf
      have hf' := hρ f (by simp [Op.operands, Call.operands, hc])
      rw [hf] at hf'
      have hfn : ∃ us vs, a.eval f = .func (.func g) us vs ∧ VRL μ first.toList us.toList ∧ VRL μ captured.toList vs.toList := by
        generalize a.eval f = y at hf'
        cases hf' with
        | same _ h => simp [plain0] at h
        | fn _ xs ys us vs hl h hl' h' => exact ⟨us, vs, rfl, ⟨hl, h⟩, ⟨hl', h'⟩⟩
      obtain ⟨us, vs, hfe, hr1, hr2⟩ := hfn
      have hall : VRL μ (first ++ c.args.map (ev S) ++ captured).toList (us ++ c.args.map a.eval ++ vs).toList := by
        simp only [Array.toList_append, Array.toList_map]
        exact (hr1.append hargs).append hr2
      obtain ⟨⟨fn, code, hfn, hbody, hname⟩, hC⟩ := hcall g _ _ σ σ' w μ v h Z hall
      have hrun : (execOp a.eval o).run P w = .ok (.enter g (us ++ c.args.map a.eval ++ vs)) w := by
        unfold execOp; rw [ho]
        simp only [resolve, hc, hfe, Deferred.ofValue, Sem.run_bind, Sem.run_pure, Result.andThen_ok, invoke, callFunc, run_program, hfn, hname, hbody, Option.isNone_some, Bool.false_eq_true, if_false]
      unfold Oper.wp
      rw [hrun, Oper.upon_enter]
      refine hC.mono fun e w' ⟨μ', r', he, hr, hZ, hE, hn⟩ => ?_
      subst he
      exact ⟨μ', r', rfl, hr, hZ, hE.1, fun k hk _ => hE.2 k hk, hn⟩

theorem aop_ok {call : FuncId → Array Value → St → Option (Value × St)} (hcall : CallOK w0 P call) {S : Slots} {N : Nat} {a : Act} {o : Oper} {v : Value} {σ' : St} {base i : Nat} {Q : Exit → Act → World → Prop}
    (A : AR μ S N a) (Z : Sim w0 P μ σ w) (hops : ∀ x ∈ o.op.operands, okOperand P x = true) (hid : μ (base + i) = none) (hlt : base + i < σ.next) (h : aop P call base i o S σ = some (v, σ')) :
    o.wp P a w (Left w0 P μ σ σ' (base + i) a o v) Q := by
  have hρ : ∀ x ∈ o.op.operands, VR μ (ev S x) (a.eval x) := fun x hx => ev_ok A Z (hops x hx)
  unfold aop at h
  split at h
  · rw [Option.map_eq_some_iff] at h
    obtain ⟨_, h, e⟩ := h; cases e
    exact pure_wp _ Z hρ h
  · rw [Option.map_eq_some_iff] at h
    obtain ⟨_, h, e⟩ := h; cases e
    exact read_wp _ Z hρ h
  · rw [Option.map_eq_some_iff] at h
    obtain ⟨⟨v1, ob⟩, h, e⟩ := h; cases e
    have Z1 : Sim w0 P μ (σ.put (base + i) ob) w := Z.put_new hid (fun cs m g u e1 e2 => by have := alloc_vers h cs m g u e1 e2; omega)
    exact alloc_wp Z1 hρ hid hlt h (by rw [St.get_put, if_pos rfl])
  · exact eff_wp hcall Z hρ hid hlt h

/-! ### a region in the order of its text -/
theorem okOper_dst {N : Nat} {o : Oper} (h : okOper P N o = true) : ∀ t, o.dst = some t → t < N := by
  intro t e
  unfold okOper at h
  simp only [e, nblt, Bool.and_eq_true, decide_eq_true_eq] at h
  exact h.1
theorem okOper_ops {N : Nat} {o : Oper} (h : okOper P N o = true) : ∀ x ∈ o.op.operands, okOperand P x = true := by
  intro x hx
  unfold okOper at h
  simp only [Bool.and_eq_true] at h
  have := h.2
  rw [Array.all_eq_true'] at this
  exact this x hx

/-- what a region leaves -/
def RegionPost (w0 : World) (P : Program) (μ : Mp) (n : Nat) (N : Nat) (S' : Slots) (σ' : St) (Q : Act → World → Prop) : Prop :=
  ∀ a' w' μ', AR μ' S' N a' → Sim w0 P μ' σ' w' → Ext n μ μ' → n ≤ σ'.next → Q a' w'

theorem runOps_ok {call : FuncId → Array Value → St → Option (Value × St)} (hcall : CallOK w0 P call) {ops : Array Oper} {base N n0 : Nat} {Q : Exit → Act → World → Prop} (hn0 : n0 ≤ base) (hok : ∀ o ∈ ops.toList, okOper P N o = true) :
    ∀ (l : List Oper) (i : Nat) (S S' : Slots) (σ σ' : St) (a : Act) (w : World) (μ μ0 : Mp), (∀ j, l[j]? = ops[i + j]?) → i + l.length = ops.size →
      AR μ S N a → Sim w0 P μ σ w → Ext n0 μ0 μ → base + ops.size ≤ σ.next → (∀ j, i ≤ j → j < ops.size → μ (base + j) = none) →
      runOps P call ops base l i S σ = some (S', σ') → RegionPost w0 P μ0 n0 N S' σ' (Q .normal) → wpOps P ops Q (List.range' i l.length) a w := by
  intro l
  induction l with
  | nil =>
    intro i S S' σ σ' a w μ μ0 hl hlen A Z E hnx hnone h hpost
    simp only [runOps, Option.some.injEq, Prod.mk.injEq] at h
    obtain ⟨rfl, rfl⟩ := h
    exact hpost a w μ A Z E (by omega)
  | cons o l ih =>
    intro i S S' σ σ' a w μ μ0 hl hlen A Z E hnx hnone h hpost
    have hoi : ops[i]? = some o := by simpa using (hl 0).symm
    have hmem : o ∈ ops.toList := by
      have : ops.toList[i]? = some o := by simpa using hoi
      exact List.mem_of_getElem? this
    have hok' := hok o hmem
    simp only [List.length_cons] at hlen
    have hl' : ∀ j, l[j]? = ops[i + 1 + j]? := fun j => by have := hl (j + 1); rw [show i + 1 + j = i + (j + 1) by omega, ← this]; simp
    simp only [List.length_cons, List.range'_succ, wpOps, hoi]
    unfold runOps at h
    rw [wanted_ok A ops o] at h
    cases hw : Region.wanted o (yielded ops a.tmps) with
    | false =>
      rw [hw] at h
      simp only [cond_false] at h
      simp only [Bool.false_eq_true, if_false]
      exact ih (i + 1) _ S' σ σ' _ w μ μ0 hl' (by omega) (A.put (okOper_dst hok') .undef) Z E hnx (fun j hj hj' => hnone j (by omega) hj') h hpost
    | true =>
      rw [hw] at h
      simp only [cond_true] at h
      simp only [if_true]
      split at h <;> try cases h
      rename_i v σ1 hop
      refine .inl (Oper.wp_mono (fun a' w' hL => ?_) (aop_ok hcall A Z (okOper_ops hok') (hnone i (Nat.le_refl _) (by omega)) (by omega) hop (Q := Q)))
      obtain ⟨μ', v', rfl, hv, hZ, hext, hsame, hnx'⟩ := hL
      exact ih (i + 1) _ S' σ1 σ' _ w' μ' μ0 hl' (by omega) ((A.mono hext).put (okOper_dst hok') hv) hZ
        ⟨fun k p hk => hext k p (E.1 k p hk), fun k hk => (hsame k (by omega) (by omega)).trans (E.2 k hk)⟩ (by omega)
        (fun j hj hj' => (hsame (base + j) (by omega) (by omega)).trans (hnone j (by omega) hj')) h hpost

end
end Go.AI
