/- The abstract machine is sound: what it answers, the model answers. -/
import Derived.Test.YtlealdhgajomhaaAiDraw
namespace Go.AI
set_option linter.unusedVariables false
set_option linter.unusedSimpArgs false

section
variable {w0 : World} {P : Program} {call : FuncId → Array Value → St → Option (Value × St)}

theorem region_ok (hcall : CallOK w0 P call) (hfol : P.toTables.follows .mixedOrders = true) {N id : Nat} {ops : Array Oper} {draw : Bool} {S S' : Slots} {σ σ' : St} {a : Act} {w : World} {μ : Mp} {Q : Exit → Act → World → Prop}
    (h : runRegion P call ops draw S σ = some (S', σ')) (hok : okCode P N (.region id ops draw) = true) (A : AR μ S N a) (Z : Sim w0 P μ σ w) (hpost : RegionPost w0 P μ σ.next N S' σ' (Q .normal)) :
    (Code.region id ops draw).wp P Q a w := by
  simp only [okCode, Bool.and_eq_true, List.all_eq_true, Bool.or_eq_true, Bool.not_eq_true'] at hok
  obtain ⟨hops, hdr⟩ := hok
  unfold runRegion at h
  have hnone : ∀ j, μ (σ.next + j) = none := fun j => Z.dom _ (by omega)
  cases draw with
  | false =>
    simp only [cond_false] at h
    refine wp_region ?_
    rw [List.range_eq_range']
    have := runOps_ok (Q := Q) (w0 := w0) hcall (ops := ops) (base := σ.next) (N := N) (n0 := σ.next) (Nat.le_refl _) hops ops.toList 0 S S' { σ with next := σ.next + ops.size } σ' a w μ μ (by simp) (by simp) A (Z.next (Nat.le_add_right _ _))
      (Ext.refl _ _) (Nat.le_refl _) (fun j _ _ => hnone j) h hpost
    simpa using this
  | true =>
    simp only [cond_true] at h
    have hD := drawOK (hdr.resolve_left (by simp))
    obtain ⟨rs, Cs, Es, hrs, C⟩ := cert_of_run _ _ _ _ h
    obtain ⟨s, hs0, hsn, htr⟩ := C.first (w0 := w0)
    have Z' : Sim w0 P μ { σ with next := σ.next + ops.size } { w with drawn := w.drawn + 1 } := (Z.next (Nat.le_add_right _ _)).drawn _
    have hrep : ∀ i, (Array.replicate ops.size false).getD i false = false := fun i => by
      rw [Array.getD_eq_getD_getElem?]
      by_cases hi : i < ops.size
      · simp [hi]
      · simp [hi]
    refine wp_region_any hfol (draw_ok hcall hD hops (Nat.le_refl _) C hrs hpost ops.size (Array.replicate ops.size false) a _ μ 0 s ?_ ?_)
    · unfold unl; simp only [Array.toList_replicate]; exact Nat.le_trans (List.length_filter_le _ _) (by simp)
    · refine ⟨by simp, fun i o e _ hl => ?_, fun q e _ => ?_, hs0, htr μ _ (fun r _ => hnone r.i) Z', ?_, fun i _ _ => hnone i, Ext.refl _ _, A.size, A.defers, fun r _ hl => ?_, fun x _ => A.slot x⟩
      · rw [hrep] at hl; cases hl
      · rw [hrep]; simp
      · rw [hsn]; exact Nat.le_refl _
      · rw [hrep] at hl; cases hl

def Fl.out : Fl → Exit
  | .normal => .normal
  | .exit n => .exit n
  | .ret => .ret

def Post (w0 : World) (P : Program) (μ : Mp) (n N : Nat) (S' : Slots) (σ' : St) (K : Act → World → Prop) : Prop :=
  ∀ a' w' μ', AR μ' S' N a' → Sim w0 P μ' σ' w' → Ext n μ μ' → n ≤ σ'.next → K a' w'

theorem Post.later {μ μ' : Mp} {n n' N : Nat} {S' : Slots} {σ' : St} {K : Act → World → Prop} (h : Post w0 P μ n N S' σ' K) (hE : Ext n μ μ') (hn : n ≤ n') : Post w0 P μ' n' N S' σ' K :=
  fun a' w' μ'' A Z E hl => h a' w' μ'' A Z (hE.trans E hn) (by omega)

theorem exec_ok (hcall : CallOK w0 P call) (hfol : P.toTables.follows .mixedOrders = true) (L N : Nat) : ∀ (c : Code) (S : Slots) (σ : St) (fl : Fl) (S' : Slots) (σ' : St) (a : Act) (w : World) (μ : Mp) (Q : Exit → Act → World → Prop),
    exec P call L c S σ = some (fl, S', σ') → okCode P N c = true → AR μ S N a → Sim w0 P μ σ w → Post w0 P μ σ.next N S' σ' (Q fl.out) → c.wp P Q a w := by
  intro c
  induction c with
  | skip =>
    intro S σ fl S' σ' a w μ Q h _ A Z hp
    simp only [exec, Option.some.injEq, Prod.mk.injEq] at h
    obtain ⟨rfl, rfl, rfl⟩ := h
    exact wp_skip (hp a w μ A Z (Ext.refl _ _) (Nat.le_refl _))
  | label l =>
    intro S σ fl S' σ' a w μ Q h _ A Z hp
    simp only [exec, Option.some.injEq, Prod.mk.injEq] at h
    obtain ⟨rfl, rfl, rfl⟩ := h
    exact wp_label (hp a w μ A Z (Ext.refl _ _) (Nat.le_refl _))
  | region id ops draw =>
    intro S σ fl S' σ' a w μ Q h hok A Z hp
    simp only [exec, Option.map_eq_some_iff] at h
    obtain ⟨⟨S1, σ1⟩, h, e⟩ := h
    cases e
    exact region_ok hcall hfol h hok A Z hp
  | seq x y ihx ihy =>
    intro S σ fl S' σ' a w μ Q h hok A Z hp
    simp only [okCode, Bool.and_eq_true] at hok
    simp only [exec] at h
    refine wp_seq ?_
    cases hx : exec P call L x S σ with
    | none => simp [hx] at h
    | some r =>
      obtain ⟨f1, S1, σ1⟩ := r
      simp only [hx] at h
      cases f1 with
      | normal =>
        simp only at h
        exact ihx S σ .normal S1 σ1 a w μ _ hx hok.1 A Z (fun a' w' μ' A' Z' E hn => ihy S1 σ1 fl S' σ' a' w' μ' Q h hok.2 A' Z' (hp.later E hn))
      | exit n =>
        simp only [Option.some.injEq, Prod.mk.injEq] at h
        obtain ⟨rfl, rfl, rfl⟩ := h
        exact ihx S σ (.exit n) S1 σ1 a w μ _ hx hok.1 A Z hp
      | ret =>
        simp only [Option.some.injEq, Prod.mk.injEq] at h
        obtain ⟨rfl, rfl, rfl⟩ := h
        exact ihx S σ .ret S1 σ1 a w μ _ hx hok.1 A Z hp
  | cond c x y ihx ihy =>
    intro S σ fl S' σ' a w μ Q h hok A Z hp
    simp only [okCode, Bool.and_eq_true] at hok
    simp only [exec] at h
    have hv := ev_ok A Z hok.1.1
    split at h <;> try cases h
    · rename_i hc
      rw [hc] at hv
      exact wp_cond_true hv.bool_inv (ihx S σ fl S' σ' a w μ Q h hok.1.2 A Z hp)
    · rename_i hc
      rw [hc] at hv
      exact wp_cond_false hv.bool_inv (ihy S σ fl S' σ' a w μ Q h hok.2 A Z hp)
  | block id c ih =>
    intro S σ fl S' σ' a w μ Q h hok A Z hp
    simp only [okCode] at hok
    simp only [exec] at h
    refine wp_block ?_
    cases hx : exec P call L c S σ with
    | none => simp [hx] at h
    | some r =>
      obtain ⟨f1, S1, σ1⟩ := r
      simp only [hx] at h
      cases f1 with
      | normal =>
        simp only [Option.some.injEq, Prod.mk.injEq] at h
        obtain ⟨rfl, rfl, rfl⟩ := h
        exact ih S σ .normal S1 σ1 a w μ _ hx hok A Z hp
      | ret =>
        simp only [Option.some.injEq, Prod.mk.injEq] at h
        obtain ⟨rfl, rfl, rfl⟩ := h
        exact ih S σ .ret S1 σ1 a w μ _ hx hok A Z hp
      | exit n =>
        simp only [nbeq, Bool.cond_decide] at h
        split at h
        · rename_i hn
          simp only [Option.some.injEq, Prod.mk.injEq] at h
          obtain ⟨rfl, rfl, rfl⟩ := h
          exact ih S σ (.exit n) S1 σ1 a w μ _ hx hok A Z (fun a' w' μ' A' Z' E hl => by
            show Exit.inBlock id Q (.exit n) a' w'
            simp only [Exit.inBlock, if_pos hn]; exact hp a' w' μ' A' Z' E hl)
        · rename_i hn
          simp only [Option.some.injEq, Prod.mk.injEq] at h
          obtain ⟨rfl, rfl, rfl⟩ := h
          exact ih S σ (.exit n) S1 σ1 a w μ _ hx hok A Z (fun a' w' μ' A' Z' E hl => by
            show Exit.inBlock id Q (.exit n) a' w'
            simp only [Exit.inBlock, if_neg hn]; exact hp a' w' μ' A' Z' E hl)
  | loop c ih =>
    intro S σ fl S' σ' a w μ Q h hok A Z hp
    simp only [okCode] at hok
    simp only [exec] at h
    refine wp_loop_rounds L ?_
    have main : ∀ (n : Nat) (S : Slots) (σ : St) (a : Act) (w : World) (μ : Mp), iter (fun S σ => exec P call L c S σ) n S σ = some (fl, S', σ') → AR μ S N a → Sim w0 P μ σ w → Post w0 P μ σ.next N S' σ' (Q fl.out) → Code.rounds P c Q n a w := by
      intro n
      induction n with
      | zero => intro S σ a w μ h; simp [iter] at h
      | succ n ihn =>
        intro S σ a w μ h A Z hp
        rw [rounds_succ]
        simp only [iter] at h
        cases hx : exec P call L c S σ with
        | none => simp [hx] at h
        | some r =>
          obtain ⟨f1, S1, σ1⟩ := r
          simp only [hx] at h
          cases f1 with
          | normal =>
            simp only at h
            exact ih S σ .normal S1 σ1 a w μ _ hx hok A Z (fun a' w' μ' A' Z' E hl => ihn S1 σ1 a' w' μ' h A' Z' (hp.later E hl))
          | exit n =>
            simp only [Option.some.injEq, Prod.mk.injEq] at h
            obtain ⟨rfl, rfl, rfl⟩ := h
            exact ih S σ (.exit n) S1 σ1 a w μ _ hx hok A Z hp
          | ret =>
            simp only [Option.some.injEq, Prod.mk.injEq] at h
            obtain ⟨rfl, rfl, rfl⟩ := h
            exact ih S σ .ret S1 σ1 a w μ _ hx hok A Z hp
    exact main L S σ a w μ h A Z hp
  | exit n =>
    intro S σ fl S' σ' a w μ Q h _ A Z hp
    simp only [exec, Option.some.injEq, Prod.mk.injEq] at h
    obtain ⟨rfl, rfl, rfl⟩ := h
    exact wp_exit (hp a w μ A Z (Ext.refl _ _) (Nat.le_refl _))
  | ret =>
    intro S σ fl S' σ' a w μ Q h _ A Z hp
    simp only [exec, Option.some.injEq, Prod.mk.injEq] at h
    obtain ⟨rfl, rfl, rfl⟩ := h
    exact wp_ret (hp a w μ A Z (Ext.refl _ _) (Nat.le_refl _))
  | scope c ih =>
    intro S σ fl S' σ' a w μ Q h hok A Z hp
    simp only [okCode] at hok
    simp only [exec] at h
    refine wp_scope_straight (ih S σ fl S' σ' a w μ _ h hok A Z ?_)
    cases fl <;> exact hp
  | goto l => intro S σ fl S' σ' a w μ Q h; simp [exec] at h
  | refuse s => intro S σ fl S' σ' a w μ Q h; simp [exec] at h
  | rangeFunc x ts c d _ _ => intro S σ fl S' σ' a w μ Q h; simp [exec] at h

theorem fillS_at : ∀ (l : List Value) (i : Nat) (S : Slots) (k : Nat), (fillS l i S).at k = if i ≤ k ∧ k < i + l.length then (l[k - i]?).getD undef else S.at k := by
  intro l
  induction l with
  | nil => intro i S k; rw [fillS, if_neg (by simp)]
  | cons v l ih =>
    intro i S k
    rw [fillS, ih]
    simp only [List.length_cons]
    by_cases h1 : i + 1 ≤ k ∧ k < i + 1 + l.length
    · rw [if_pos h1, if_pos (by omega), show k - i = (k - (i + 1)) + 1 by omega]; simp
    · rw [if_neg h1]
      by_cases h2 : k = i
      · subst h2
        rw [if_pos (by omega)]
        simp [Slots.at, Tr.get_set]
      · rw [if_neg (by omega)]
        simp [Slots.at, Tr.get_set, h2]

theorem result_ok {S : Slots} {N : Nat} {a : Act} {σ : St} {w : World} {μ : Mp} (A : AR μ S N a) (Z : Sim w0 P μ σ w) {r : ResultVar} {v : Value} (h : result P S σ r = some v) :
    ∃ v', (match r with | .tmp t => (pure (a.tmps.getD t undef) : Sem Value) | .cell x t => do loadVar t (← asAddr (a.tmps.getD x undef))).run P w = .ok v' w ∧ VR μ v v' := by
  cases r with
  | tmp t => simp only [result, Option.some.injEq] at h; subst h; exact ⟨_, rfl, A.slot t⟩
  | cell x t =>
    simp only [result] at h
    have hx := A.slot x
    obtain ⟨v', h1, h2⟩ := aload_ok Z hx h
    refine ⟨v', ?_, h2⟩
    unfold aload at h
    split at h <;> try cases h
    rename_i id off hS
    rw [hS] at hx
    obtain ⟨p, hp, hu⟩ := hx.ptr_inv
    rw [hu] at h1
    simp only
    rw [hu]
    simpa [Instr.loadAt, Instr.sureAddr, asAddr] using h1

theorem results_ok {S : Slots} {N : Nat} {a : Act} {σ : St} {w : World} {μ : Mp} (A : AR μ S N a) (Z : Sim w0 P μ σ w) : ∀ (l : List ResultVar) (vs : List Value), resultsOf P S σ l = some vs →
    ∃ us, (l.mapM (fun (r : ResultVar) => (match r with | .tmp t => (pure (a.tmps.getD t undef) : Sem Value) | .cell x t => do loadVar t (← asAddr (a.tmps.getD x undef))))).run P w = .ok us w ∧ VRL μ vs us := by
  intro l
  induction l with
  | nil => intro vs h; simp only [resultsOf, Option.some.injEq] at h; subst h; exact ⟨[], rfl, .nil⟩
  | cons r l ih =>
    intro vs h
    simp only [resultsOf] at h
    split at h <;> try cases h
    rename_i v vs' hv hvs
    obtain ⟨u, h1, h2⟩ := result_ok A Z hv
    obtain ⟨us, h3, h4⟩ := ih vs' hvs
    refine ⟨u :: us, ?_, .cons h2 h4⟩
    rw [List.mapM_cons]
    simp only [Sem.run_bind, h1, Result.andThen_ok, h3, Sem.run_pure]

theorem answer_ok {fn : Func} {S : Slots} {N : Nat} {a : Act} {σ : St} {w : World} {μ : Mp} (A : AR μ S N a) (Z : Sim w0 P μ σ w) {vs : List Value} (h : resultsOf P S σ fn.results.toList = some vs) :
    ∃ v', (results fn a.tmps).run P w = .ok v' w ∧ VR μ (answer vs) v' := by
  obtain ⟨us, h1, h2⟩ := results_ok A Z _ _ h
  unfold results
  rw [Array.mapM_eq_mapM_toList]
  simp only [Sem.run_bind, Sem.run_map]
  have h1' : (List.mapM (fun (r : ResultVar) => (match r with | .tmp t => (pure (a.tmps.getD t undef) : Sem Value) | .cell x t => do let __do_lift ← asAddr (a.tmps.getD x undef); loadVar t __do_lift)) fn.results.toList).run P w = .ok us w := h1
  erw [h1']
  simp only [Result.andThen_ok, Sem.run_pure]
  refine ⟨_, rfl, ?_⟩
  match vs, us, h2 with
  | [], us, h2 => rw [h2.nil_inv]; exact .mkTuple .nil
  | [v], us, h2 =>
    obtain ⟨u, us', rfl, h3, h4⟩ := h2.cons_inv
    rw [h4.nil_inv]
    exact h3
  | v1 :: v2 :: vs, us, h2 =>
    have hl := h2.1
    rw [dif_neg (by simp only [List.size_toArray, ← hl, List.length_cons]; omega)]
    exact .mkTuple h2

/-- **Calls.** -/
theorem callF_ok (hP : okProg P = true) (L : Nat) : ∀ n, CallOK w0 P (callF P L n) := by
  simp only [okProg, Bool.and_eq_true, List.all_eq_true] at hP
  obtain ⟨hfs, hfol⟩ := hP
  intro n
  induction n with
  | zero => intro f args args' σ σ' w μ r h; simp [callF] at h
  | succ n ih =>
    intro f args args' σ σ' w μ r h Z hargs
    simp only [callF] at h
    split at h <;> try cases h
    rename_i fn hf
    split at h <;> try cases h
    rename_i c hb
    have hfn := hfs fn (by have : P.funcs.toList[f]? = some fn := by simpa using hf
                           exact List.mem_of_getElem? this)
    simp only [okFunc, hb, Bool.and_eq_true, Bool.not_eq_true'] at hfn
    refine ⟨⟨fn, c, hf, hb, hfn.2⟩, ?_⟩
    cases hx : exec P (callF P L n) L c (fillS args.toList 0 .nil) σ with
    | none => simp [hx] at h
    | some x =>
      obtain ⟨fl, S', σ1⟩ := x
      have A0 : AR μ (fillS args.toList 0 .nil) fn.ntmps { tmps := args' ++ Array.replicate (fn.ntmps - args'.size) undef, defers := [] } := by
        have hsz := hargs.size
        refine ⟨by simp; omega, rfl, fun i => ?_⟩
        rw [fillS_at]
        simp only [Nat.zero_le, true_and, Nat.zero_add, Nat.sub_zero, Array.length_toList]
        rw [Array.getD_eq_getD_getElem?]
        by_cases hi : i < args.size
        · rw [if_pos hi, Array.getElem?_append_left (by omega)]
          have h1 : args.toList[i]? = some args[i] := by simp [hi]
          obtain ⟨u, hu, hr⟩ := hargs.get h1
          have hu' : args'[i]? = some u := by simpa using hu
          rw [h1, hu']; exact hr
        · rw [if_neg hi, Array.getElem?_append_right (by omega)]
          have : ((Array.replicate (fn.ntmps - args'.size) undef)[i - args'.size]?).getD undef = undef := by
            by_cases h2 : i - args'.size < fn.ntmps - args'.size
            · simp [h2]
            · simp [h2]
          rw [this]
          exact .undef
      have fin : ∀ (R : Exit), R = .normal ∨ R = .ret → (resultsOf P S' σ1 fn.results.toList).map (fun vs => (answer vs, σ1)) = some (r, σ') →
          Post w0 P μ σ.next fn.ntmps S' σ1 (bodyPost P fn (fun e w' => ∃ μ' r', e = .returned r' ∧ VR μ' r r' ∧ Sim w0 P μ' σ' w' ∧ Ext σ.next μ μ' ∧ σ.next ≤ σ'.next) R) := by
        intro R hR hres a' w' μ' A' Z' E hl
        rw [Option.map_eq_some_iff] at hres
        obtain ⟨vs, hvs, he⟩ := hres
        cases he
        obtain ⟨v', h1, h2⟩ := answer_ok A' Z' hvs
        rcases hR with rfl | rfl
        · exact ⟨A'.defers, v', h1, μ', v', rfl, h2, Z', E, hl⟩
        · exact ⟨A'.defers, v', h1, μ', v', rfl, h2, Z', E, hl⟩
      refine calls_of_wp hf hb ?_
      cases fl with
      | exit k => simp [hx] at h
      | normal => simp only [hx] at h; exact exec_ok ih hfol L fn.ntmps c _ σ .normal S' σ1 _ w μ _ hx hfn.1 A0 Z (fin .normal (.inl rfl) h)
      | ret => simp only [hx] at h; exact exec_ok ih hfol L fn.ntmps c _ σ .ret S' σ1 _ w μ _ hx hfn.1 A0 Z (fin .ret (.inr rfl) h)

end
end Go.AI
