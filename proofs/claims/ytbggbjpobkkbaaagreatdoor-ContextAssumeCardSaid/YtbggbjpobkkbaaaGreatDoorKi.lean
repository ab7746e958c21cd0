import Derived.Test.YtbggbjpobkkbaaaGreatDoorKh
set_option linter.unusedVariables false
set_option linter.unusedSimpArgs false
set_option linter.constructorNameAsVariable false
namespace Go.PI
open Go.AI
def uT : PC → Prop
 | .region _ ops draw ms sc => if draw then ms = dX ops.toList [] ∧ dW sc = rF ops ms else dW sc = List.range ops.size
 | .seq a b => uT a ∧ uT b
 | .cond _ a b => uT a ∧ uT b
 | .block _ c => uT c
 | .loop c => uT c
 | .scope c => uT c
 | .drop _ c => uT c
 | .ice _ c => uT c
 | _ => True
theorem aCy {ops : Array Oper} {ms : List Nat} : ∀ {l done : List Nat}, topo ops ms l done = true → l.Nodup ∧ (∀ i ∈ l, i < ops.size ∧ i ∉ done) := by
 intro l;induction l with
 | nil => intro done _; exact ⟨List.nodup_nil, fun i hi => by simp at hi⟩
 | cons i l ih =>
  intro done h;simp only [topo, bjE] at h;obtain ⟨⟨⟨⟨h1, h2⟩, h3⟩, h4⟩, h5⟩ := h;obtain ⟨h6, h7⟩ := ih h5;have hi : i < ops.size := by rw [hP] at h1; simpa using h1
  have hd : i ∉ done := by simpa using h2
  refine ⟨List.nodup_cons.2 ⟨fun hh => (h7 i hh).2 (mhE ..), h6⟩, fun j hj => ?_⟩
  rcases List.mem_cons.1 hj with rfl | hj
  ·exact ⟨hi, hd⟩
  ·exact ⟨(h7 j hj).1, fun hh => (h7 j hj).2 (mtE _ hh)⟩
section
variable {P : Program} {ν ν' ν'' : Nu} {γ γ1 γ' : Ga} {σ σ' : St} {S : PS} {A : Slots}
theorem tR {ops : Array Oper} (h : tS ops = true) : (rF ops (dX ops.toList [])).Nodup ∧ ∀ i ∈ rF ops (dX ops.toList []), i < ops.size ∧ i ∉ ([] : List Nat) := by
 unfold tS at h;split at h
 ·simp only [vU, bjE] at h;exact aCy h.1
 ·cases h
theorem aE9 {ops : Array Oper} {o : Option (PS × PSt)} {r : PS × PSt} (h : fitP ops o = some r) : o = some r ∧ zP ops r.1 r.2 = true := by
 unfold fitP at h;split at h
 ·rename_i r';cases hb : zP ops r'.1 r'.2 with
  | true => rw [hb, cdt] at h; cases h; exact ⟨rfl, hb⟩
  | false => rw [hb] at h; cases h
 ·cases h
theorem okTw_ok {ops : Array Oper} {p : PSt} (M : Mem ν γ p σ) (F : FR ν γ σ S A) (h : zP ops S p = true) : okTw ops A σ = true := by
 unfold zP at h;unfold okTw;split at h
 ·rename_i e; rw [e]
 ·rename_i s t e;rw [e];simp only;have r1 := (F s).1;have r2 := (F t).1;split at h
  ·rename_i es i off id o2 e1 e2;rw [e1] at r1;rw [e2] at r2;split at h
   ·rename_i cs hg;obtain ⟨a, us, n1, n2, _⟩ := M.get _ _ hg;show (match A.at s, A.at t with
     | .pointer (some ⟨i, _, none⟩), .pointer (some ⟨j, _, none⟩) => !Nat.beq i j && (match σ.get j with | some (.cells _ m) => m.grp.isNone | _ => false)
     | _, _ => false) = true
    generalize A.at s = u1 at *;generalize A.at t = u2 at *;cases r1 with
    | pin z _ _ _ id' base rcs m hs hr hb h =>
     cases r2 with
     | ptr _ _ a' hν =>
      rw [hν] at n1; simp only [ojE] at n1; subst n1;have : id' ≠ a' := fun e => hr.2 _ (e ▸ hν)
      simp only [cN, decide_eq_false this, n2, boxMeta, Option.isNone_none, Bool.not_false, Bool.and_self]
     | ptr0 _ _ a' hν => rw [hν] at n1; cases n1
   ·cases h
  ·cases h
 ·cases h
theorem pR (n : Nat) : Keep ν fU σ { σ with next := σ.next + n } := ⟨rfl, Nat.le_add_right _ _, fun _ h => h, fun a _ cs m h => ⟨m.tip, h, fun h => h, fun _ => rfl⟩⟩
theorem Mem.more {p : PSt} (M : Mem ν γ p σ) (n : Nat) : Mem ν γ p { σ with next := σ.next + n } :=
 ⟨M.le, fun id a h => Nat.lt_of_lt_of_le (M.lt id a h) (Nat.le_add_right _ _), M.inj, M.live, fun id o h => (M.get id o h).keep (γ1 := fU) (pR n) (.refl σ ν) rfl (fun _ _ => rfl) fun i off hi _ => ⟨rfl, hi⟩,
  fun a ha => M.free a (Nat.le_trans (Nat.le_add_right _ _) ha), M.ver⟩
theorem FR.more (F : FR ν γ σ S A) (n : Nat) : FR ν γ { σ with next := σ.next + n } S A := F.keep (γ1 := fU) (pR n) (.refl σ ν) fun i t hi _ => ⟨rfl, hi⟩
theorem Adv.more {p : PSt} (n : Nat) : Adv ν γ p σ ν γ p { σ with next := σ.next + n } := ⟨(pR n).weak fun _ _ => rfl, .refl σ ν, .refl σ γ, .refl p, fun a cs m h => ⟨cs, m.tip, h⟩, fun _ _ h _ => ⟨rfl, h⟩⟩
theorem Mem.cln {p : PSt} (M : Mem ν γ p σ) : Mem ν γ (PI.cln p) σ := ⟨M.le, M.lt, M.inj, M.live, M.get, M.free, M.ver⟩
theorem Mem.dty {p' : PSt} (M : Mem ν γ p' σ) (p : PSt) : Mem ν γ (PI.dty p p') σ := ⟨M.le, M.lt, M.inj, M.live, M.get, M.free, M.ver⟩
theorem Adv.dty {p p' : PSt} (h : Adv ν γ (PI.cln p) σ ν' γ' p' σ') : Adv ν γ p σ ν' γ' (PI.dty p p') σ' :=
 ⟨h.keep, h.mon, h.out, ⟨h.dp.next, fun id hi => h.dp.dirty id hi, fun id hi => bW.2 (.inr hi), fun k hk hd => h.dp.mem k hk hd⟩, h.rz, fun id a hi hd => h.bx id a hi fun hh => hd (bW.2 (.inl hh))⟩
theorem aCF {pc : gK} {ac : FuncId → Array Value → St → Option (Value × St)} (hcall : jM pc ac) {N id : Nat} {ops : Array Oper} {draw : Bool} {ms : List Nat} {sc : List aCo} {p p' : PSt} {S' : PS}
    (hok : cH P N (.region id ops draw) = true) (hsc : uT (.region id ops draw ms sc)) (M : Mem ν γ p σ) (F : FR ν γ σ S A)
    (h : (bif draw then (fitP ops (gL P pc ops ms sc [] S (cln p))).map (fun r => (r.1, dty p r.2)) else yV P pc ops sc S p) = some (S', p')) :
    ∃ A' σ' ν' γ', dZ P ac ops draw A σ = some (A', σ') ∧ Mem ν' γ' p' σ' ∧ FR ν' γ' σ' S' A' ∧ Adv ν γ p σ ν' γ' p' σ' ∧ (∀ j, j < σ.next → σ.get j = none → σ'.get j = none) := by
 simp only [cH, bjE, List.all_eq_true, Bool.or_eq_true, Bool.not_eq_true'] at hok;obtain ⟨hops, hdr⟩ := hok;have hops' : ∀ o ∈ ops.toList, o.op.operands.all (aH P) = true := fun o ho => by
  have := hops o ho;simp only [lU, bjE] at this;exact this.2
 unfold dZ;cases draw with
 | false =>
  simp only [cdf] at h ⊢;simp only [uT] at hsc;obtain ⟨A', σ', ν', γ', h1, h2, h3, h4, h5⟩ := runP_ok hcall (base := σ.next) hops' sc 0 ν γ S p A { σ with next := σ.next + ops.size } S' p' (by simpa [List.range_eq_range'] using hsc) (Nat.zero_le _) (nlR _)
   (fun j _ hj => M.free _ (Nat.le_add_right _ _)) (M.more _) (F.more _) h
  exact ⟨A', σ', ν', γ', h1, h2, h3, (Adv.more _).trans h4, fun j hj hn => h5 j hj hn⟩
 | true =>
  simp only [cdt] at h ⊢;simp only [uT, if_true] at hsc;obtain ⟨rfl, hsc⟩ := hsc;have hD := hdr.resolve_left (by simp)
  obtain ⟨hnd, hlt⟩ := tR hD;simp only [mjE, pjE] at h;obtain ⟨⟨S2, p2⟩, h, rfl, rfl⟩ := h;obtain ⟨h, htw⟩ := aE9 h;obtain ⟨A', σ', ν', γ', h1, h2, h3, h4, h5⟩ := runDP_ok hcall (base := σ.next) hops' sc [] [] ν γ S (cln p) A { σ with next := σ.next + ops.size } S2 p2 (by rw [hsc]; exact hnd)
   (fun j hj => ⟨(hlt j (by rw [← hsc]; exact hj)).1, M.free _ (Nat.le_add_right _ _)⟩) (nlR _) (fun r hr => by simp at hr) (M.cln.more _) (F.more _) h
  rw [hsc] at h1;refine ⟨A', σ', ν', γ', ?_, h2.dty p, h3, (Adv.more _).trans h4.dty, fun j hj hn => h5 j hj hn⟩
  rw [h1];simp only [fitTw, okTw_ok h2 h3 htw, cdt]
def ExOK (P : Program) (ac : FuncId → Array Value → St → Option (Value × St)) (L : Nat) (run : PS → PSt → Option (Fl × PS × PSt)) (arun : Slots → St → Option (Fl × Slots × St)) : Prop :=
 ∀ (ν : Nu) (γ : Ga) (S : PS) (p : PSt) (A : Slots) (σ : St) (fl : Fl) (S' : PS) (p' : PSt), Mem ν γ p σ → FR ν γ σ S A → run S p = some (fl, S', p') →
  ∃ A' σ' ν' γ', arun A σ = some (fl, A', σ') ∧ Mem ν' γ' p' σ' ∧ FR ν' γ' σ' S' A' ∧ Adv ν γ p σ ν' γ' p' σ' ∧ (∀ j, j < σ.next → σ.get j = none → σ'.get j = none)
theorem iterP_ok {ac : FuncId → Array Value → St → Option (Value × St)} {L : Nat} {run : PS → PSt → Option (Fl × PS × PSt)} {arun : Slots → St → Option (Fl × Slots × St)} (h : ExOK P ac L run arun) : ∀ n, ExOK P ac L (tX run n) (aDs arun n) := by
 intro n;induction n with
 | zero => intro ν γ S p A σ fl S' p' M F hr; simp only [tX] at hr; cases hr
 | succ n ih =>
  intro ν γ S p A σ fl S' p' M F hr;simp only [tX] at hr;simp only [aDs];cases hb : run S p with
  | none => rw [hb] at hr; cases hr
  | some r =>
   obtain ⟨f1, S1, p1⟩ := r;rw [hb] at hr;obtain ⟨A1, σ1, ν1, γ1, k1, k2, k3, k4, k5⟩ := h ν γ S p A σ f1 S1 p1 M F hb;rw [k1];cases f1 with
   | normal =>
    simp only at hr ⊢;obtain ⟨A', σ', ν', γ', j1, j2, j3, j4, j5⟩ := ih ν1 γ1 S1 p1 A1 σ1 fl S' p' k2 k3 hr;exact ⟨A', σ', ν', γ', j1, j2, j3, k4.trans j4, fun j hj hn => j5 j (Nat.lt_of_lt_of_le hj k4.keep.next) (k5 j hj hn)⟩
   | exit m =>
    simp only [ojE, pjE] at hr;obtain ⟨rfl, rfl, rfl⟩ := hr;exact ⟨A1, σ1, ν1, γ1, rfl, k2, k3, k4, k5⟩
   | ret =>
    simp only [ojE, pjE] at hr;obtain ⟨rfl, rfl, rfl⟩ := hr;exact ⟨A1, σ1, ν1, γ1, rfl, k2, k3, k4, k5⟩
theorem execP_ok {pc : gK} {ac : FuncId → Array Value → St → Option (Value × St)} (hcall : jM pc ac) (L N : Nat) : ∀ (c : PC), uT c → cH P N (cR c) = true → ExOK P ac L (cQ P pc L c) (aX P ac L (cR c)) := by
 intro c;induction c with
 | skip =>
  intro _ _ ν γ S p A σ fl S' p' M F h;simp only [cQ, ojE, pjE] at h; obtain ⟨rfl, rfl, rfl⟩ := h;exact ⟨A, σ, ν, γ, rfl, M, F, .refl ν γ _ σ, fun j _ h => h⟩
 | label l =>
  intro _ _ ν γ S p A σ fl S' p' M F h;simp only [cQ, ojE, pjE] at h; obtain ⟨rfl, rfl, rfl⟩ := h;exact ⟨A, σ, ν, γ, rfl, M, F, .refl ν γ _ σ, fun j _ h => h⟩
 | region id ops draw ms sc =>
  intro hk hok ν γ S p A σ fl S' p' M F h;simp only [cQ, mjE, pjE] at h;obtain ⟨⟨S1, p1⟩, hr, rfl, rfl, rfl⟩ := h;obtain ⟨A', σ', ν', γ', h1, h2, h3, h4, h5⟩ := aCF hcall hok hk M F hr;exact ⟨A', σ', ν', γ', by simp only [cR, aX, h1]; rfl, h2, h3, h4, h5⟩
 | seq a b iha ihb =>
  intro hk hok ν γ S p A σ fl S' p' M F h;simp only [cR, cH, bjE] at hok;simp only [cQ] at h;simp only [cR, aX];cases hb : cQ P pc L a S p with
  | none => rw [hb] at h; cases h
  | some r =>
   obtain ⟨f1, S1, p1⟩ := r;rw [hb] at h;obtain ⟨A1, σ1, ν1, γ1, k1, k2, k3, k4, k5⟩ := iha hk.1 hok.1 ν γ S p A σ f1 S1 p1 M F hb;rw [k1];cases f1 with
   | normal =>
    simp only at h ⊢;obtain ⟨A', σ', ν', γ', j1, j2, j3, j4, j5⟩ := ihb hk.2 hok.2 ν1 γ1 S1 p1 A1 σ1 fl S' p' k2 k3 h;exact ⟨A', σ', ν', γ', j1, j2, j3, k4.trans j4, fun j hj hn => j5 j (Nat.lt_of_lt_of_le hj k4.keep.next) (k5 j hj hn)⟩
   | exit m =>
    simp only [ojE, pjE] at h; obtain ⟨rfl, rfl, rfl⟩ := h;exact ⟨A1, σ1, ν1, γ1, rfl, k2, k3, k4, k5⟩
   | ret =>
    simp only [ojE, pjE] at h; obtain ⟨rfl, rfl, rfl⟩ := h;exact ⟨A1, σ1, ν1, γ1, rfl, k2, k3, k4, k5⟩
 | cond x a b iha ihb =>
  intro hk hok ν γ S p A σ fl S' p' M F h;simp only [cR, cH, bjE] at hok;simp only [cQ] at h;have hx := aQ F hok.1.1;split at h
  ·rename_i e;rw [e] at hx;obtain ⟨A', σ', ν', γ', k1, k2⟩ := iha hk.1 hok.1.2 ν γ S p A σ fl S' p' M F h;refine ⟨A', σ', ν', γ', ?_, k2⟩;simp only [cR, aX];generalize ev A x = w at hx;cases hx; exact k1
  ·rename_i e;rw [e] at hx;obtain ⟨A', σ', ν', γ', k1, k2⟩ := ihb hk.2 hok.2 ν γ S p A σ fl S' p' M F h;refine ⟨A', σ', ν', γ', ?_, k2⟩;simp only [cR, aX];generalize ev A x = w at hx;cases hx; exact k1
  ·cases h
 | block id c ih =>
  intro hk hok ν γ S p A σ fl S' p' M F h;simp only [cR, cH] at hok;simp only [cQ] at h;simp only [cR, aX];cases hb : cQ P pc L c S p with
  | none => rw [hb] at h; cases h
  | some r =>
   obtain ⟨f1, S1, p1⟩ := r;rw [hb] at h;obtain ⟨A1, σ1, ν1, γ1, k1, k2, k3, k4, k5⟩ := ih hk hok ν γ S p A σ f1 S1 p1 M F hb;rw [k1];cases f1 with
   | normal =>
    simp only [ojE, pjE] at h; obtain ⟨rfl, rfl, rfl⟩ := h;exact ⟨A1, σ1, ν1, γ1, rfl, k2, k3, k4, k5⟩
   | exit m =>
    simp only at h ⊢;cases he : Nat.beq m id with
    | true =>
     simp only [he, cdt, ojE, pjE] at h ⊢; obtain ⟨rfl, rfl, rfl⟩ := h;exact ⟨A1, σ1, ν1, γ1, ⟨rfl, rfl, rfl⟩, k2, k3, k4, k5⟩
    | false =>
     simp only [he, cdf, ojE, pjE] at h ⊢; obtain ⟨rfl, rfl, rfl⟩ := h;exact ⟨A1, σ1, ν1, γ1, ⟨rfl, rfl, rfl⟩, k2, k3, k4, k5⟩
   | ret =>
    simp only [ojE, pjE] at h; obtain ⟨rfl, rfl, rfl⟩ := h;exact ⟨A1, σ1, ν1, γ1, rfl, k2, k3, k4, k5⟩
 | loop c ih =>
  intro hk hok;simp only [cR, cH] at hok;exact iterP_ok (ih hk hok) L
 | exit id =>
  intro _ _ ν γ S p A σ fl S' p' M F h;simp only [cQ, ojE, pjE] at h; obtain ⟨rfl, rfl, rfl⟩ := h;exact ⟨A, σ, ν, γ, rfl, M, F, .refl ν γ _ σ, fun j _ h => h⟩
 | ret =>
  intro _ _ ν γ S p A σ fl S' p' M F h;simp only [cQ, ojE, pjE] at h; obtain ⟨rfl, rfl, rfl⟩ := h;exact ⟨A, σ, ν, γ, rfl, M, F, .refl ν γ _ σ, fun j _ h => h⟩
 | scope c ih =>
  intro hk hok;simp only [cR, cH] at hok;exact ih hk hok
 | other c => intro _ _ ν γ S p A σ fl S' p' M F h; simp only [cQ] at h; cases h
 | drop ts c ih =>
  intro hk hok ν γ S p A σ fl S' p' M F h;simp only [cQ] at h;exact ih hk hok ν γ _ p A σ fl S' p' M (F.keeps ts) h
 | ice t c ih =>
  intro hk hok ν γ S p A σ fl S' p' M F h;simp only [cQ] at h;split at h
  ·rename_i S1 p1 h1;obtain ⟨ν1, M1, F1, A1⟩ := mV M F h1;obtain ⟨A', σ', ν', γ', k1, k2, k3, k4, k5⟩ := ih hk hok ν1 γ S1 p1 A σ fl S' p' M1 F1 h;exact ⟨A', σ', ν', γ', k1, k2, k3, A1.trans k4, k5⟩
  ·cases h
theorem aBY : ∀ (l : List (PV × Bool)) (i : Nat) (S : PS) (k : Nat), (uF l i S).at k = if i ≤ k ∧ k < i + l.length then (l[k - i]?).getD (.und, false) else S.at k := by
 intro l;induction l with
 | nil => intro i S k; simp [uF]; omega
 | cons x l ih =>
  intro i S k;simp only [uF, ih, kI, lcS];by_cases h : k = i
  ·subst h; simp; omega
  ·by_cases h2 : i + 1 ≤ k ∧ k < i + 1 + l.length
   ·rw [if_pos h2, if_pos (by omega), show k - i = (k - (i + 1)) + 1 by omega, gcS]
   ·rw [if_neg h2, if_neg h, if_neg (by omega)]
theorem FR.fill {args : List (PV × Bool)} {us : List Value} (r : RL ν σ (args.map (·.1)) us) (ho : ∀ (i : Nat) (x : PV) (w : Value), args[i]? = some (x, true) → us[i]? = some w → Ow ν γ σ (.slot i) x w) : FR ν γ σ (uF args 0 .none) (jF us 0 .nil) := by
 intro t;rw [aBY, oV];have hl : args.length = us.length := by have := r.1; simpa using this
 by_cases h : 0 ≤ t ∧ t < 0 + args.length
 ·rw [if_pos h, if_pos (by rw [← hl]; exact h)]
  have h1 : args[t]? = some (args[t]'(by omega)) := geG _
  obtain ⟨u, h2, h3⟩ := r.get (i := t) (x := (args[t]'(by omega)).1) (by rw [List.getElem?_map, h1]; rfl)
  simp only [Nat.sub_zero, h1, h2, Option.getD_some];refine ⟨h3, fun hb => ho t _ u ?_ h2⟩
  rw [h1, ← hb]
 ·rw [if_neg h];exact ⟨.und _, fun h => (by cases h)⟩
theorem zL {p : PSt} (M : Mem ν γ p σ) (F : FR ν γ σ S A) : ∀ (l : List ResultVar) (vs : List (PV × Bool)), dD P S p l = some vs → ∃ us, cA P A σ l = some us ∧ RL ν σ (vs.map (·.1)) us := by
 intro l;induction l with
 | nil => intro vs h; simp only [dD, ojE] at h; subst h; exact ⟨[], rfl, .nil⟩
 | cons r l ih =>
  intro vs h;simp only [dD] at h;split at h
  ·rename_i v vs' hv hvs;simp only [ojE] at h; subst h;obtain ⟨us, h1, h2⟩ := ih vs' hvs;have : ∃ u, lP P A σ r = some u ∧ R ν σ v.1 u := by
    cases r with
    | tmp t => simp only [kM, ojE] at hv; subst hv; exact ⟨_, rfl, (F t).1⟩
    | cell a t =>
     simp only [kM, mjE] at hv;obtain ⟨v', hl, rfl⟩ := hv;exact tK M (F a).1 hl
   obtain ⟨u, h3, h4⟩ := this;exact ⟨u :: us, by simp only [cA, h3, h1], .cons h4 h2⟩
  ·cases h
theorem aC9 {p : PSt} (M : Mem ν γ p σ) (F : FR ν γ σ S A) {l : List ResultVar} {vs : List (PV × Bool)} (h : dD P S p l = some vs) :
    ∃ us γ', cA P A σ l = some us ∧ R ν σ (bF vs).1 (kJ us) ∧ ((bF vs).2 = true → Ow ν γ' σ .hand (bF vs).1 (kJ us)) ∧ G2 γ γ' := by
 obtain ⟨us, h1, h2⟩ := zL M F l vs h;cases vs with
 | nil =>
  have := h2.nil_inv; subst this;exact ⟨[], γ, h1, .mkTup .nil, fun h => (by cases h), .refl γ⟩
 | cons v vs =>
  cases vs with
  | nil =>
   obtain ⟨u, us', rfl, h3, h4⟩ := h2.cons_inv;have := h4.nil_inv; subst this;cases l with
   | nil => simp [dD] at h
   | cons r l =>
    cases r with
    | tmp t =>
     have hv : v = S.at t := by
      simp only [dD, kM] at h;split at h
      ·rename_i v' vs' e1 e2;simp only [ojE, List.cons.injEq] at h e1;rw [← h.1, ← e1]
      ·cases h
     have hu : u = A.at t := by
      simp only [cA, lP] at h1;split at h1
      ·rename_i v' vs' e1 e2;simp only [ojE, List.cons.injEq] at h1 e1;rw [← h1.1, ← e1]
      ·cases h1
     refine ⟨[u], PI.mv (.slot t) .hand γ, h1, h3.wk, fun ho => ?_, .mv (by simp) (by simp)⟩
     simp only [bF, bjE] at ho ⊢;subst hv; subst hu;have how : Ow ν (PI.mv (.slot t) .hand γ) σ .hand (S.at t).1 (A.at t) := by
      cases hs : (S.at t).2 with
      | true => exact ((F t).2 hs).mv (k' := .hand)
      | false =>
       rw [hs, Bool.false_or] at ho;have h5 := (F t).1;cases hx : (S.at t).1 with
       | nil => rw [hx] at h5; generalize A.at t = w at h5 ⊢; cases h5; exact .nil _
       | _ => rw [hx] at ho; cases ho.1
     have hne := ho.2;simp only [kJ];generalize (S.at t).1 = x at how hne ⊢;generalize A.at t = w at how ⊢;cases x with
     | sl z es => cases es with
      | nil => simp [isE] at hne
      | cons e es => exact how
     | nil => cases how with
      | nil => exact .nil _
      | exact _ _ _ _ rcs m hr => exact .exact _ _ _ _ rcs m hr
      | zer _ b o => exact .zer _ b o
     | _ => cases how with
      | nil => exact .nil _
      | exact _ _ _ _ rcs m hr => exact .exact _ _ _ _ rcs m hr
      | zer _ b o => exact .zer _ b o
    | cell a t =>
     refine ⟨[u], γ, h1, h3.wk, fun ho => ?_, .refl γ⟩
     simp only [dD, kM] at h;split at h
     ·rename_i v' vs' e1 e2;simp only [ojE, List.cons.injEq] at h;simp only [mjE] at e1;obtain ⟨v2, _, rfl⟩ := e1;simp only [bF, ← h.1, Bool.false_or, bjE] at ho ⊢;rw [← h.1] at h3;cases v2 with
      | nil => cases h3; exact .nil _
      | _ => cases ho.1
     ·cases h
  | cons v2 vs =>
   obtain ⟨u, us', rfl, h3, h4⟩ := h2.cons_inv;obtain ⟨u2, us'', rfl, h5, h6⟩ := h4.cons_inv;exact ⟨_, γ, h1, .mkTup h2.wks, fun h => (by cases h), .refl γ⟩
end
end Go.PI
namespace Go.PI
open Go.AI
def uni : List Nat → List Nat → List Nat
 | [], l => l
 | x :: xs, l => bif l.contains x then uni xs l else x :: uni xs l
def del (l : List Nat) (k : List Nat) : List Nat := l.filter fun x => !k.contains x
def tmpOf : Operand → List Nat
 | .tmp t => [t]
 | _ => []
def usesOf (ops : Array Oper) (o : Oper) : List Nat :=
 o.op.operands.toList.flatMap tmpOf ++ (match o.guard with | some (j, _) => (match ops[j]? with | some q => q.dst.toList | none => []) | none => [])
def aER (ops : Array Oper) : List Oper → List Nat → List Nat
 | [], out => out
 | o :: os, out => uni (usesOf ops o) (del (aER ops os out) o.dst.toList)
def lv (rs : List Nat) : Code → List Nat → List (Nat × List Nat) → List Nat
 | .region _ ops _, out, _ => aER ops ops.toList out
 | .seq a b, out, ex => lv rs a (lv rs b out ex) ex
 | .cond c a b, out, ex => uni (tmpOf c) (uni (lv rs a out ex) (lv rs b out ex))
 | .block id c, out, ex => lv rs c out ((id, out) :: ex)
 | .loop c, _, ex => lv rs c [] ex
 | .exit id, _, ex => match ex.find? fun e => Nat.beq e.1 id with | some e => e.2 | none => []
 | .ret, _, _ => rs
 | .scope c, out, ex => lv rs c out ex
 | _, out, _ => out
def isApp (ops : Array Oper) (a i s : Nat) : Bool :=
 match ops[a]?, ops[i]?, ops[s]? with
 | some oA, some oI, some oS =>
  match oA.op, oA.dst, oI.op, oI.dst, oS.op with
  | .call c, some d, .indexAddr _ (.tmp d') _, some b, .store _ (.tmp b') _ => iC oA && Nat.beq d d' && Nat.beq b b'
  | _, _, _, _, _ => false
 | _, _, _ => false
end Go.PI
namespace Go.PI
open Go.AI
section
variable {P : Program} {ν ν' ν'' : Nu} {γ γ1 γ' : Ga} {σ σ' : St} {S : PS} {A : Slots}
def ovP : OV → PV
 | .s l => .str l
 | .t => .v (.bool true)
def orP (O : Orc) (f : FuncId) (args : List (PV × Bool)) : Option OV :=
 bif Nat.beq f O.n then (match args with
 | [(.v (.int .i64 a), _), (.v (.int .i64 b), _)] => (O.s a b).map .s
 | _ => none) else bif Nat.beq f O.m then (match args with
 | [] => some .t
 | _ => none) else none
def gdP (O : Orc) (f : FuncId) (args : List (PV × Bool)) : Bool :=
 bif Nat.beq f O.n then (match args with
 | [(.v (.int .i64 a), _), (.v (.int .i64 b), _)] => true
 | _ => false) else bif Nat.beq f O.m then (match args with
 | [] => true
 | _ => false) else true
variable (P) in
def jK (O : Orc) (G : PTab) (L : Nat) : Nat → gK
 | 0, _, _, _ => none
 | n + 1, f, args, p => match orP O f args with
  | some s => some (ovP s, false, p)
  | none => bif !gdP O f args then none else match G f with
   | some (c, rs) => match cQ P (jK O G L n) L c (uF args 0 .none) (st0 p) with
    | some (.exit _, _, _) => none
    | some (_, S, p') => match dD P S p' rs with
     | some vs => some ((bF vs).1, (bF vs).2, settle p (bF vs).1 p')
     | none => none
    | none => none
   | none => none
theorem R.int_inv {x : Int} {k : IntKind} {u : Value} (h : R ν σ (.v (.int k x)) u) : u = .int k x := by cases h; rfl
theorem orA_of {O : Orc} {f : FuncId} {args : List (PV × Bool)} {us : Array Value} (r : RL ν σ (args.map (·.1)) us.toList) (h : gdP O f args = true) : orA O f us = (orP O f args).map OV.v := by
 unfold gdP at h;unfold orA orP;cases hf : Nat.beq f O.n with
 | false =>
  rw [hf, cdf] at h;simp only [cdf];cases hm : Nat.beq f O.m with
  | false => rfl
  | true =>
   rw [hm, cdt] at h;simp only [cdt];split at h
   ·obtain ⟨hl, _⟩ := r
    match hu : us.toList, hl with
    | [], _ => rfl
   ·cases h
 | true =>
  rw [hf, cdt] at h;simp only [cdt];split at h
  ·rename_i a o1 b o2;obtain ⟨hl, hr⟩ := r
   match hu : us.toList, hl, hr with
   | [u, v], _, hr =>
    have e1 := R.int_inv (hr 0 _ u rfl rfl);have e2 := R.int_inv (hr 1 _ v rfl rfl);rw [e1, e2]
  ·cases h
theorem gdP_of {O : Orc} {f : FuncId} {args : List (PV × Bool)} {s : OV} (h : orP O f args = some s) : gdP O f args = true := by
 unfold orP at h;unfold gdP;cases hf : Nat.beq f O.n with
 | false =>
  rw [hf, cdf] at h;rw [cdf];cases hm : Nat.beq f O.m with
  | false => rfl
  | true =>
   rw [hm, cdt] at h;rw [cdt];split at h
   ·rfl
   ·cases h
 | true =>
  rw [hf, cdt] at h;rw [cdt];split at h
  ·rfl
  ·cases h
def aGy (P C : Program) (G : PTab) : Prop :=
 ∀ f c rs, G f = some (c, rs) → ∃ fn, C.funcs[f]? = some fn ∧ fn.body = some (cR c) ∧ rs = fn.results.toList ∧ uT c ∧ cH P fn.ntmps (cR c) = true
theorem aFY {C : Program} {O : Orc} {G : PTab} (hG : aGy P C G) (L : Nat) : ∀ n, jM (jK P O G L n) (uK P C O L n) := by
 intro n;induction n with
 | zero => intro g args p v own p' h; simp only [jK] at h; cases h
 | succ n ih =>
  intro g args p v own p' h ν γ σ us M r ho;simp only [jK] at h;split at h
  ·rename_i s hs;simp only [ojE, pjE] at h;obtain ⟨rfl, rfl, rfl⟩ := h;refine ⟨s.v, σ, ν, γ, by simp only [uK, orA_of r (gdP_of hs), hs, omS], (match s with | .s l => R.str ⟨l.toArray⟩ | .t => R.v _ rfl), fun h => (by cases h), M, Adv.refl ν γ p σ, fun j _ h => h⟩
  rename_i hno;cases hgd : gdP O g args with
  | false => rw [hgd] at h; cases h
  | true =>
  rw [hgd] at h;simp only [bnT, cdf] at h;have hna : orA O g us = none := by rw [orA_of r hgd, hno]; rfl
  split at h
  ·rename_i c rs hg;obtain ⟨fn, h1, h2, rfl, h4, h5⟩ := hG g c rs hg;simp only [uK, hna, h1, h2];have M0 : Mem ν γ (st0 p) σ := ⟨M.le, M.lt, M.inj, M.live, M.get, M.free, M.ver⟩;have key : ∀ fl S' p1, cQ P (jK P O G L n) L c (uF args 0 .none) (st0 p) = some (fl, S', p1) → (∀ k, fl ≠ .exit k) → ∀ vs, dD P S' p1 fn.results.toList = some vs →
          v = (bF vs).1 → own = (bF vs).2 → p' = settle p (bF vs).1 p1 →
          ∃ u σ' ν' γ', dP P fn (aX P (uK P C O L n) L (cR c) (jF us.toList 0 .nil) σ) = some (u, σ') ∧ R ν' σ' v u ∧ (own = true → Ow ν' γ' σ' .hand v u) ∧ Mem ν' γ' p' σ' ∧ Adv ν γ p σ ν' γ' p' σ' ∧ ∀ j, j < σ.next → σ.get j = none → σ'.get j = none := by
    intro fl S' p1 he hne vs hvs hv hown hp';obtain ⟨A', σ1, ν1, γ1, k1, k2, k3, k4, k5⟩ := execP_ok ih L fn.ntmps c h4 h5 ν γ _ _ (jF us.toList 0 .nil) σ fl S' p1 M0 (FR.fill r ho) he;obtain ⟨us', γ2, j1, j2, j3, j4⟩ := aC9 k2 k3 hvs;obtain ⟨ν3, m1, m2, m3, m4⟩ := aDW (own := (bF vs).2) M (k2.g2 j4) (k4.trans (.g j4.out)) j2 j3;rw [k1];subst hv; subst hown; subst hp';refine ⟨kJ us', σ1, ν3, γ2, ?_, m1, m2, m3, m4, k5⟩;cases fl with
    | normal => simp only [dP, j1]; rfl
    | ret => simp only [dP, j1]; rfl
    | exit k => exact absurd rfl (hne k)
   split at h
   ·cases h
   ·rename_i fl S' p1 hne he;split at h
    ·rename_i vs hvs;simp only [ojE, pjE] at h;exact key fl S' p1 he (fun k e => hne k e) vs hvs h.1.symm h.2.1.symm h.2.2.symm
    ·cases h
   ·cases h
  ·cases h
end
end Go.PI
