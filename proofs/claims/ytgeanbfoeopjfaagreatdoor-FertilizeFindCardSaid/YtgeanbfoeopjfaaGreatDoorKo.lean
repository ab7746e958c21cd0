import Derived.Test.YtgeanbfoeopjfaaGreatDoorKn
set_option linter.unusedVariables false
set_option linter.unusedSimpArgs false
set_option linter.constructorNameAsVariable false
namespace Go.TV
open Go.AI Go.PI
section
variable {P : Program} {U : gU} {T : TP U.D} {c c0 : Cx} {q p : PSt} {M : TM U.D} {S : TS U.D} {S' : PS}
theorem aCN : ∀ {l : List (Nat × Sh × Rts)} {d rest : List (V U)} {S0 : TS U.D}, unS U l d = some (S0, rest) → ∀ k, bH k (l.map (·.1)) = false → mP S0 k = (.no, [])
 | [], d, rest, S0, h, k, _ => by simp only [unS, ojE, pjE] at h; rw [← h.1]; rfl
 | (t, s, r) :: l, d, rest, S0, h, k, hk => by
  unfold unS at h
  split at h
  ·rename_i x d' hx
   split at h
   ·rename_i S1 d'' hS
    simp only [ojE, pjE] at h
    obtain ⟨rfl, rfl⟩ := h
    simp only [mpC, bH, Bool.or_eq_false_iff] at hk
    rw [pZ (fun e => by rw [e, Nat.beq_refl] at hk; cases hk.1)]
    exact aCN hS k hk.2
   ·cases h
  ·cases h
theorem aAs : ∀ (ps : List (Sh × Bool)) (i k : Nat), bH k ((cutOf.psL ps i).map (·.1)) = (decide (i ≤ k) && decide (k < i + ps.length))
 | [], i, k => by simp [cutOf.psL, bH]
 | (s, o) :: ps, i, k => by
  simp only [cutOf.psL, mpC, bH, aAs ps (i + 1) k, lcS, bP]
  rw [Bool.eq_iff_iff]
  simp only [Bool.or_eq_true, bjE, djE]
  omega
theorem aBf : ∀ (ps : List (Sh × Rts)) (i k : Nat), bH k ((cutOf.bxL ps i).map (·.1)) = (decide (i ≤ k) && decide (k < i + ps.length))
 | [], i, k => by simp [cutOf.bxL, bH]
 | (s, o) :: ps, i, k => by
  simp only [cutOf.bxL, mpC, bH, aBf ps (i + 1) k, lcS, bP]
  rw [Bool.eq_iff_iff]
  simp only [Bool.or_eq_true, bjE, djE]
  omega
theorem unB_val {k : Nat} {s : Sh} {rr : Rts} {l : List (Nat × Sh × Rts)} (hns : ∀ t, s ≠ .row t) {d2 : List (V U)} : unB U ((k, s, rr) :: l) d2 = (match unV U s d2 with | some (x, d') => (match unB U l d' with | some (M, d'') => some ((k, .bx x rr) :: M, d'') | none => none) | none => none) := by
 cases s with
 | row t => exact (hns t rfl).elim
 | _ => cases d2 <;> first | rfl | (simp only [unB])
theorem aCO : ∀ {l : List (Nat × Sh × Rts)} {d rest : List (V U)} {M0 : List (Nat × BC U.D)}, unB U l d = some (M0, rest) → ∀ k, bB M0 k = none → bH k (l.map (·.1)) = false
 | [], d, rest, M0, h, k, _ => rfl
 | (t, s, r) :: l, d, rest, M0, h, k, hk => by
  have fin : ∀ {b : BC U.D} {M1 : List (Nat × BC U.D)} {d' : List (V U)}, M0 = (t, b) :: M1 → unB U l d' = some (M1, rest) → bH k (((t, s, r) :: l).map (·.1)) = false := by
   intro b M1 d' e h1
   subst e
   rw [cQ] at hk
   by_cases e1 : k = t
   ·rw [if_pos e1] at hk; cases hk
   ·rw [if_neg e1] at hk
    simp only [mpC, bH, aCO h1 k hk, Bool.or_false]
    exact beqF fun e => e1 e.symm
  have other : (∀ t', s ≠ .row t') → bH k (((t, s, r) :: l).map (·.1)) = false := by
   intro hns
   rw [unB_val hns] at h
   split at h
   ·rename_i x d' _
    split at h
    ·rename_i M1 d'' h1
     simp only [ojE, pjE] at h
     obtain ⟨e1, e2⟩ := h
     subst e2
     exact fin e1.symm h1
    ·cases h
   ·cases h
  cases s with
  | row t' =>
   cases d with
   | nil => cases h
   | cons v d =>
    obtain ⟨vt, vx⟩ := v
    cases vt with
    | sl e =>
     simp only [unB] at h
     cases hb : e.beq t' with
     | false => rw [hb] at h; cases h
     | true =>
      rw [hb] at h
      simp only [cdt] at h
      split at h
      ·rename_i M1 d' h1
       simp only [ojE, pjE] at h
       obtain ⟨e1, e2⟩ := h
       subst e2
       exact fin e1.symm h1
      ·cases h
    | _ => cases h
  | _ => exact other fun _ e => by cases e
theorem kP {n : Nat} : ∀ {l : List (Sh × Rts)} {rs : List Rts} {d : List (V U)} {m : List (X U)}, gP U l rs d = some m → okBx n l = true → ∀ (i f : Nat) (caps : List Nat) (r : Rts), m[i]? = some (SV.cl f caps, r) → oN caps n = true
 | [], [], [], m, h, _, i, f, caps, r, hm => by simp only [gP, ojE] at h; subst h; simp at hm
 | (.val t, rr) :: l, r :: rs, v :: d, m, h, ho, i, f, caps, r', hm => by
  simp only [gP] at h
  split at h
  ·rename_i m' h1
   cases h
   cases i with
   | zero => simp at hm
   | succ i => rw [gcS] at hm; exact kP h1 ho i f caps r' hm
  ·cases h
 | (.cl f0 caps0, rr) :: l, r :: rs, d, m, h, ho, i, f, caps, r', hm => by
  simp only [gP] at h
  simp only [okBx, bjE] at ho
  split at h
  ·rename_i m' h1
   cases h
   cases i with
   | zero =>
    simp only [gcZ, ojE, pjE, SV.cl.injEq] at hm
    rw [← hm.1.2]; exact ho.1
   | succ i => rw [gcS] at hm; exact kP h1 ho.2 i f caps r' hm
  ·cases h
 | [], _ :: _, _, _, h, _, _, _, _, _, _ => by simp [gP] at h
 | [], [], _ :: _, _, h, _, _, _, _, _, _ => by simp [gP] at h
 | (s, rr) :: l, [], d, m, h, _, _, _, _, _, _ => by cases s <;> simp [gP] at h
 | (.val t, rr) :: l, r :: rs, [], m, h, _, _, _, _, _, _ => by simp [gP] at h
 | (.tup _, _) :: _, _ :: _, _, _, h, _, _, _, _, _, _ => by simp [gP] at h
 | (.nl, _) :: _, _ :: _, _, _, h, _, _, _, _, _, _ => by simp [gP] at h
 | (.lc _ _ _, _) :: _, _ :: _, _, _, h, _, _, _, _, _, _ => by simp [gP] at h
 | (.ep _, _) :: _, _ :: _, _, _, h, _, _, _, _, _, _ => by simp [gP] at h
 | (.rw _, _) :: _, _ :: _, _, _, h, _, _, _, _, _, _ => by simp [gP] at h
 | (.nf, _) :: _, _ :: _, _, _, h, _, _, _, _, _, _ => by simp [gP] at h
 | (.row _, _) :: _, _ :: _, _, _, h, _, _, _, _, _, _ => by simp [gP] at h
 | (.no, _) :: _, _ :: _, _, _, h, _, _, _, _, _, _ => by simp [gP] at h
theorem below_wk {n : Nat} {x : PV} (h : gd (wk x) = true) : below n x = true := by
 cases x with
 | agg cs => simp [wk, gd] at h
 | tup cs => simp [wk, gd] at h
 | ptr i o => simp [wk, gd] at h
 | rs i o l => simp [wk, gd] at h
 | mp i => simp [wk, gd] at h
 | fn f a b => simp [wk, gd] at h
 | _ => rfl
theorem qM {n : Nat} : ∀ {caps : List Nat} {ps : List PV}, wK c caps ps → (∀ k e id, k ∈ caps → c k = some e → e.id = some id → id < n) → eY n ps = true
 | [], [], _, _ => rfl
 | k :: ks, x :: ps, ⟨⟨e, id, h1, h2, h3⟩, h4⟩, hb => by
  simp only [eY, qM h4 (fun k' e id hk => hb k' e id (mtE _ hk)), bnA]
  rw [h3]
  simp only [below, fS, djE]
  exact hb k e id (mhE ..) h1 h2
 | [], _ :: _, h, _ => h.elim
 | _ :: _, [], h, _ => h.elim
theorem oM {n : Nat} : ∀ {l : List Nat}, oN l n = true → ∀ k ∈ l, k < n
 | x :: l, h, k, hk => by
  simp only [oN, bjE, fS, djE] at h
  rcases List.mem_cons.1 hk with rfl | hk
  ·exact h.1
  ·exact oM h.2 k hk
theorem aBc {c' : Cx} : ∀ {caps : List Nat} {ps : List PV}, wK c caps ps → (∀ k e, k ∈ caps → c k = some e → c' k = some e) → wK c' caps ps
 | [], [], _, _ => trivial
 | k :: ks, x :: ps, ⟨⟨e, id, h1, h2, h3⟩, h4⟩, hb => ⟨⟨e, id, hb k e (mhE ..) h1, h2, h3⟩, aBc h4 fun k' e hk => hb k' e (mtE _ hk)⟩
 | [], _ :: _, h, _ => h.elim
 | _ :: _, [], h, _ => h.elim
theorem aDs {O : Orc} {s : Sig} {d : List (V U)} {args : List (PV × Bool)} {cc : Cx} {S0 : TS U.D} {M0 : TM U.D} (hok : okS O s = true) (hf : Nat.beq s.f O.n = true) (hin : aBw U s d p cc args S0 M0) :
    s.bx = [] ∧ s.bo = [] ∧ s.rs = [.str] ∧ s.own = false ∧ ∃ a b o1 o2, d = [⟨.int .i64, a⟩, ⟨.int .i64, b⟩] ∧ args = [(.v (.int .i64 a), o1), (.v (.int .i64 b), o2)] := by
 obtain ⟨f, ps, bx, bo, rs, own⟩ := s
 unfold okS at hok
 rw [hf, cdt] at hok
 split at hok
 ·rename_i e1 e2 e3 e4 e5
  simp only at e1 e2 e3 e4 e5
  subst e1; subst e2; subst e3; subst e4; subst e5
  refine ⟨rfl, rfl, rfl, rfl, ?_⟩
  have hst := hin.start
  have hu : ∀ (t : Ty) (x : Den U.D t) (l : List (V U)), unV U (.val (.int .i64)) (⟨t, x⟩ :: l) = bif t.beq (.int .i64) then some (.val ⟨t, x⟩, l) else none := fun _ _ _ => rfl
  simp only [unT', cutOf, cutOf.psL, cutOf.bxL, unS] at hst
  match d, hst, hin with
  | [], hst, _ => cases hst
  | [⟨t, x⟩], hst, _ =>
   rw [hu] at hst
   cases h1 : t.beq (.int .i64) with
   | false => rw [h1] at hst; cases hst
   | true => rw [h1] at hst; cases hst
  | ⟨t, x⟩ :: ⟨u, y⟩ :: r, hst, hin =>
   rw [hu] at hst
   cases h1 : t.beq (.int .i64) with
   | false => rw [h1] at hst; cases hst
   | true =>
    rw [h1, cdt] at hst
    simp only [hu] at hst
    cases h2 : u.beq (.int .i64) with
    | false => rw [h2] at hst; cases hst
    | true =>
     have e1 := Ty.beq_eq h1
     have e2 := Ty.beq_eq h2
     subst e1; subst e2
     rw [h2, cdt] at hst
     cases r with
     | cons z r => cases hst
     | nil =>
      simp only [unB, ojE, pjE] at hst
      obtain ⟨g1, g2⟩ := hst
      match args, hin.len, hin.args with
      | [(p1, o1), (p2, o2)], _, ha =>
       have a1 := (ha 0 _ rfl).1
       have a2 := (ha 1 _ rfl).1
       rw [← g1] at a1 a2
       refine ⟨x, y, o1, o2, rfl, ?_⟩
       have b1 : p1 = .v (.int .i64 x) := eJ a1
       have b2 : p2 = .v (.int .i64 y) := eJ a2
       rw [b1, b2]
 ·cases hok
theorem aAA {O : Orc} {s : Sig} {d : List (V U)} {args : List (PV × Bool)} {cc : Cx} {S0 : TS U.D} {M0 : TM U.D} (hok : okS O s = true) (hn : Nat.beq s.f O.n = false) (hf : Nat.beq s.f O.m = true) (hin : aBw U s d p cc args S0 M0) :
    s.bx = [] ∧ s.bo = [] ∧ s.rs = [.bool] ∧ s.own = false ∧ d = [] ∧ args = [] := by
 obtain ⟨f, ps, bx, bo, rs, own⟩ := s
 unfold okS at hok
 rw [hn, cdf, hf, cdt] at hok
 split at hok
 ·rename_i e1 e2 e3 e4 e5
  simp only at e1 e2 e3 e4 e5
  subst e1; subst e2; subst e3; subst e4; subst e5
  refine ⟨rfl, rfl, rfl, rfl, ?_, ?_⟩
  ·have hst := hin.start
   simp only [unT', cutOf, cutOf.psL, cutOf.bxL, unS] at hst
   cases d with
   | nil => rfl
   | cons x d => simp only [unB] at hst; cases hst
  ·exact List.length_eq_zero_iff.1 hin.len
 ·cases hok
variable (hU : eG U) (hT : sQ P U T)
include hU hT
theorem callT_ok {G : TTab} {GP : PTab} (hG : ∀ i s code rs, T.sig i = some s → G i = some (code, rs) → GP s.f = some (code.pc, rs)) (L : Nat) : ∀ n, eK U T (vF U T G L n) (iK P T.orc GP L n) := by
 intro n
 induction n with
 | zero => intro inst s d out hs h; cases h
 | succ n ih =>
  intro inst s d out hs h p cc args S0 M0 hin
  simp only [vF, hs] at h
  split at h
  ·rename_i s' code rs hs' hg
   cases hs'
   cases hb : okS T.orc s && Nat.ble s.bx.length 100 && okBx s.bx.length s.bx with
   | false => rw [hb] at h; cases h
   | true =>
    rw [hb] at h
    simp only [bjE, Nat.ble_eq] at hb
    obtain ⟨⟨hb0, hb1⟩, hb2⟩ := hb
    rw [cdt] at h
    split at h
    ·rename_i x hx
     simp only [ojE] at h
     subst h
     unfold orT at hx
     cases hf : Nat.beq s.f T.orc.n with
     | false =>
      rw [hf, cdf] at hx
      cases hm : Nat.beq s.f T.orc.m with
      | false => rw [hm] at hx; cases hx
      | true =>
       obtain ⟨k1, k2, k3, k4, rfl, rfl⟩ := aAA hb0 hf hm hin
       rw [hm, cdt] at hx
       cases hx
       refine ⟨.v (.bool true), false, p, ?_, ?_⟩
       ·simp only [iK, orP, hf, hm, cdt, cdf, ovP]
       ·refine ⟨?_, ⟨[], ?_, fun j x hj => (by cases hj)⟩, rfl, fun _ _ _ => rfl, fun _ _ _ => rfl, fun id h => .inl h, fun id h => h, fun id h => .inl h⟩
        ·rw [k3, k4]
         exact ⟨bX _, aE _ _⟩
        ·rw [k3, k1, k2]; rfl
     | true =>
      obtain ⟨k1, k2, k3, k4, a, b, o1, o2, rfl, rfl⟩ := aDs hb0 hf hin
      rw [hf, cdt] at hx
      simp only at hx
      rw [mjE] at hx
      obtain ⟨x, hx, rfl⟩ := hx
      refine ⟨.str x, false, p, ?_, ?_⟩
      ·simp only [iK, orP, hf, cdt, hx, omS, ovP]
      ·refine ⟨?_, ⟨[], ?_, fun j x hj => (by cases hj)⟩, rfl, fun _ _ _ => rfl, fun _ _ _ => rfl, fun id h => .inl h, fun id h => h, fun id h => .inl h⟩
       ·rw [k3, k4]
        exact ⟨vR _, aE _ _⟩
       ·rw [k3, k1, k2]; rfl
    rename_i hnone
    have hno : orP T.orc s.f args = none ∧ gdP T.orc s.f args = true := by
     unfold orP gdP
     cases hf : Nat.beq s.f T.orc.n with
     | false =>
      cases hm : Nat.beq s.f T.orc.m with
      | false => exact ⟨rfl, rfl⟩
      | true =>
       obtain ⟨k1, k2, k3, k4, rfl, rfl⟩ := aAA hb0 hf hm hin
       unfold orT at hnone
       rw [hf, cdf, hm, cdt] at hnone
       cases hnone
     | true =>
      obtain ⟨k1, k2, k3, k4, a, b, o1, o2, rfl, rfl⟩ := aDs hb0 hf hin
      unfold orT at hnone
      rw [hf, cdt] at hnone
      exact ⟨hnone, rfl⟩
    simp only [nY, hin.start] at h
    have hst := hin.start
    unfold unT' at hst
    split at hst
    ·rename_i Sa da hSa
     split at hst
     ·rename_i Ma hMa
      simp only [ojE, pjE] at hst
      obtain ⟨e1, e2⟩ := hst
      subst e1; subst e2
      have hcc : ∀ k e, cc k = some e → k < s.bx.length := fun k e hk => by
       rcases Nat.lt_or_ge k s.bx.length with h | h
       ·exact h
       ·rw [hin.dom k h] at hk; cases hk
      have F0 : frR U cc Sa (sD args 0 .none) := by
       intro k
       rw [aA5]
       by_cases hk : k < args.length
       ·rw [if_pos ⟨Nat.zero_le _, by omega⟩, Nat.sub_zero, geG hk]
        exact hin.args k _ (geG hk)
       ·rw [if_neg (by omega)]
        have : mP Sa k = (.no, []) := aCN hSa k (by
         show bH k ((cutOf.psL s.ps 0).map (·.1)) = false
         rw [aAs]
         have := hin.len
         simp; omega)
        rw [this]
        exact ⟨trivial, aE _ _⟩
      have M0' : MR U p cc cc ⟨Ma, []⟩ (st0 p) := by
       refine ⟨fun k hk => ?_, fun k b hk => ?_, hin.lt, hin.inj, nlR _, fun k e h1 _ => h1, fun k e id h1 h2 h3 => ?_, fun id _ _ => rfl, fun id hi => (by cases hi), fun id hi => (by cases hi)⟩
       ·have := aCO hMa k hk
        rw [show (cutOf s).bx = cutOf.bxL s.bx 0 from rfl, aBf] at this
        refine hin.dom k ?_
        simp at this; omega
       ·obtain ⟨e, h1, h2⟩ := hin.bx k b hk
        exact ⟨e, h1, mH h2 fun _ _ => rfl⟩
       ·have := hcc k e h1; omega
      obtain ⟨fl, c1, S1, M1, S1', p1, h1, h2, h3, h4, h5⟩ := execT_ok hU hT ih L code (List (V U)) (finT U T s rs) out Sa ⟨Ma, []⟩ (sD args 0 .none) (st0 p) cc F0 M0' h
      have hGP := hG inst s code rs hs hg
      have hfl : (∀ id, fl ≠ .exit id) ∧ ∃ a b, resT U T S1 M1 rs s.rs = some a ∧ outB U M1 s.bx s.bo 0 = some b ∧ (!s.own || (ownT U S1 rs && aBP s.rs)) = true ∧ out = a ++ b := by
       have key : ∀ (r : Option (List (V U))), r = (match resT U T S1 M1 rs s.rs, outB U M1 s.bx s.bo 0 with | some a, some b => bif !s.own || (ownT U S1 rs && aBP s.rs) then some (a ++ b) else none | _, _ => none) → r = some out → ∃ a b, resT U T S1 M1 rs s.rs = some a ∧ outB U M1 s.bx s.bo 0 = some b ∧ (!s.own || (ownT U S1 rs && aBP s.rs)) = true ∧ out = a ++ b := by
        intro r e1 e2
        rw [e1] at e2
        split at e2
        ·rename_i a b ha hb'
         cases hw : !s.own || (ownT U S1 rs && aBP s.rs) with
         | false => rw [hw] at e2; cases e2
         | true => rw [hw] at e2; cases e2; exact ⟨a, b, ha, hb', rfl, rfl⟩
        ·cases e2
       cases fl with
       | exit id => cases h1
       | normal => exact ⟨fun _ e => (by cases e), key _ rfl h1⟩
       | ret => exact ⟨fun _ e => (by cases e), key _ rfl h1⟩
      obtain ⟨hne, a, b, ha, hb', hw, rfl⟩ := hfl
      obtain ⟨vs, r1, r2, r3, r4, r5⟩ := wQ hU hT h3 h4 ha
      obtain ⟨m, o1, o2⟩ := aDq h4 hb'
      simp only [Nat.zero_add] at o2
      have hal : a.length = s.rs.length := by rw [← r3, List.length_map]
      have htake : (a ++ b).take s.rs.length = a := by rw [← hal]; exact List.take_left
      have hdrop : (a ++ b).drop s.rs.length = b := by rw [← hal]; exact List.drop_left
      have hres : slR U cc (resV U s.own a) ((aZ vs).1, (aZ vs).2) ∧ below p.next (aZ vs).1 = true := by
       have hlen : vs.length = a.length := by have := congrArg List.length r2; simpa using this
       have htup : (∀ v, a ≠ [v]) → (slR U cc (resV U s.own a) ((aZ vs).1, (aZ vs).2) ∧ below p.next (aZ vs).1 = true) := by
        intro hn1
        have e1 : resV U s.own a = (.tup a, []) := by
         cases a with
         | nil => rfl
         | cons x a => cases a with
          | nil => exact (hn1 x rfl).elim
          | cons y a => rfl
        have e2 : aZ vs = (.tup (wks (vs.map (·.1))), false) := by
         cases vs with
         | nil => rfl
         | cons w vs => cases vs with
          | cons w' vs => rfl
          | nil =>
           cases a with
           | nil => simp at hlen
           | cons x a => cases a with
            | nil => exact (hn1 x rfl).elim
            | cons y a => simp at hlen
        have e3 : wks (vs.map (·.1)) = a.map fun v => enV U v.t v.x := by rw [fI, List.map_map]; exact r2
        rw [e1, e2]
        refine ⟨⟨⟨_, rfl, e3⟩, aE _ _⟩, ?_⟩
        show eY p.next _ = true
        rw [e3, bQ]
        intro x hx
        obtain ⟨v, _, rfl⟩ := List.mem_map.1 hx
        exact aA8 hU _ _ _
       cases a with
       | nil => exact htup fun v e => by cases e
       | cons v a =>
        cases a with
        | cons y a => exact htup fun v e => by cases e
        | nil =>
         cases vs with
         | nil => simp at hlen
         | cons w vs =>
          cases vs with
          | cons y vs => simp at hlen
          | nil =>
           have hv := r5 v w rfl rfl
           refine ⟨⟨VR_wk hU hv, ?_⟩, ?_⟩
           ·cases ho : s.own with
            | false => exact aE _ _
            | true =>
             rw [ho] at hw
             simp only [bnT, Bool.false_or, bjE] at hw
             obtain ⟨hw1, hw2⟩ := hw
             have hrs : ∃ t, rs = [.tmp t] ∧ mL (mP S1 t).2 = true := by
              unfold ownT at hw1
              split at hw1
              ·exact ⟨_, rfl, hw1⟩
              ·cases hw1
             obtain ⟨t, rfl, hst2⟩ := hrs
             have hwt := r4 t w rfl rfl
             have hsl : lF v.t = false := by
              have hw3 : aBP [v.t] = true := by rw [← r3] at hw2; exact hw2
              cases hvt : v.t with
              | sl t => rfl
              | _ => rw [hvt] at hw3; cases hw3
             have hna := kJ hv hsl
             rcases (h3 t).2 0 true (lK hst2) with ⟨g1, _⟩ | ⟨_, _, g1, g2⟩
             ·rw [← hwt, hna] at g1; cases g1
             ·rw [← hwt] at g1 g2
              intro o st hi
              have hi : (o, st) ∈ ownR true := hi
              simp only [ownR, List.mem_singleton, pjE] at hi
              refine .inr ⟨hi.1, ?_, ?_, fun _ => ?_⟩
              ·show isAgg (wk w.1) = false
               rw [hv.wk, ← hv.wk]
               cases hh : w.1 with
               | agg cs => rw [hh] at hna; cases hna
               | sl z es => cases es <;> rfl
               | _ => rfl
              ·show (((w.2 || jU w.1) && !isE w.1) || jU (wk w.1)) = true
               rw [g1, g2 rfl]; rfl
              ·show isE (wk w.1) = false
               cases hh : w.1 with
               | sl z es => cases es <;> rfl
               | _ => rfl
           ·show below p.next (wk w.1) = true
            rw [hv.wk]; exact aA8 hU _ _ _
      obtain ⟨hslr, hbel⟩ := hres
      have hmlen : m.length = s.bx.length := nA o1
      have hold : ∀ id, id ∈ (p1.dirty.filter fun id => Nat.blt id p.next) ↔ id ∈ p1.dirty ∧ id < p.next := fun id => by
       rw [List.mem_filter]; simp only [fS, djE]
      have hidx : ∀ k e id, cc k = some e → e.id = some id → ∃ x cs, m[k]? = some x ∧ c1 k = some e ∧ p1.get id = some (.box cs) ∧ iJ U c1 x.1 cs ∧ rtB x.2 cs := by
       intro k e id hk hid
       have hlt := hcc k e hk
       obtain ⟨e', id', cs, g1, g2, g3, g4, g5⟩ := o2 k m[k] (geG (by omega))
       have := h4.bor k e' g1 (by omega)
       rw [hk] at this; cases this
       rw [hid] at g2; cases g2
       exact ⟨_, cs, geG (by omega), g1, g3, g4, g5⟩
      have hpget : ∀ id, id < p.next → p1.get id = p1.mem.get id := fun id hi => by
       have : Nat.blt id p1.next = true := by rw [fS, djE]; exact Nat.lt_of_lt_of_le hi h5
       simp only [PSt.get, this, cdt]
      have hback : (p1.dirty.filter fun id => Nat.blt id p.next).all (oH p.next p1.mem) = true := by
       rw [List.all_eq_true]
       intro id hi
       obtain ⟨hd, hlt⟩ := (hold id).1 hi
       obtain ⟨k, e, g1, g2⟩ := h4.dirty id hd hlt
       obtain ⟨x, cs, g3, g4, g5, g6, _⟩ := hidx k e id g1 g2
       rw [hpget id hlt] at g5
       simp only [oH, g5, mR, List.all_eq_true]
       intro y hy
       obtain ⟨sv, rr⟩ := x
       cases sv with
       | val v =>
        obtain ⟨k1, k2, k3⟩ := g6
        exact below_wk ((⟨k1, k2⟩ : SR v.t v.x (cs.map (·.1))).gd hU (List.mem_map.2 ⟨y, hy, rfl⟩))
       | cl f caps =>
        obtain ⟨pv, bb, e1, ps, e2, e3⟩ := g6
        rw [e1, List.mem_singleton] at hy
        rw [hy, e2]
        show (eY p.next [] && eY p.next ps) = true
        rw [qM e3 fun k' e' id' hk' h6 h7 => hin.lt k' e' id' (h4.bor k' e' h6 (by have := oM (kP o1 hb2 k f caps rr g3) k' hk'; omega)) h7]
        rfl
       | nf =>
        obtain ⟨bb, e1⟩ := g6
        rw [e1, List.mem_singleton] at hy
        rw [hy]; rfl
       | _ => exact g6.elim
      have hset : PI.settle p (aZ vs).1 p1 = ⟨(p1.dirty.filter fun id => Nat.blt id p.next).foldr (back p1.mem) p.mem, p.next, (p1.dirty.filter fun id => Nat.blt id p.next).foldr ins p.dirty, (p1.wr.filter fun id => Nat.blt id p.next).foldr ins p.wr⟩ := by
       unfold PI.settle
       rw [hbel, hback]; rfl
      have hfm := oB (mem := p.mem) (q := p1.mem) (old := p1.dirty.filter fun id => Nat.blt id p.next) (fun id hi e => by
       have := List.all_eq_true.1 hback id hi
       simp only [oH, e] at this; cases this)
      have hget : ∀ id, id < p.next → (PI.settle p (aZ vs).1 p1).get id = if id ∈ (p1.dirty.filter fun id => Nat.blt id p.next) then p1.get id else p.get id := by
       intro id hi
       rw [hset]
       have hbl : Nat.blt id p.next = true := by rw [fS, djE]; exact hi
       show (bif Nat.blt id p.next then _ else none) = _
       rw [hbl, cdt, hfm id, hpget id hi]
       by_cases h6 : id ∈ (p1.dirty.filter fun id => Nat.blt id p.next)
       ·rw [if_pos h6, if_pos h6]
       ·rw [if_neg h6, if_neg h6]
        simp only [PSt.get, hbl, cdt]
      have hgetb : ∀ id, id < p.next → (PI.settle p (aZ vs).1 p1).get id = p1.get id := by
       intro id hi
       rw [hget id hi]
       by_cases h6 : id ∈ (p1.dirty.filter fun id => Nat.blt id p.next)
       ·rw [if_pos h6]
       ·rw [if_neg h6]
        exact (h4.old id hi fun hd => h6 ((hold id).2 ⟨hd, hi⟩)).symm
      refine ⟨(aZ vs).1, (aZ vs).2, PI.settle p (aZ vs).1 p1, ?_, ?_⟩
      ·have : iK P T.orc GP L (n + 1) s.f args p = some ((aZ vs).1, (aZ vs).2, PI.settle p (aZ vs).1 p1) := by
        simp only [iK, hno.1, hno.2, bnT, cdf, hGP, h2]
        cases fl with
        | exit id => exact (hne id rfl).elim
        | normal => simp only [r1]
        | ret => simp only [r1]
       exact this
      ·refine ⟨by rw [htake]; exact hslr, ⟨m, by rw [hdrop]; exact o1, fun j x hj => ?_⟩, by rw [hset], fun id hi hno => ?_, fun id hi hno => ?_, fun id hi => ?_, fun id hi => ?_, fun id hi => ?_⟩
       ·obtain ⟨e, id, cs, g1, g2, g3, g4, g5⟩ := o2 j x hj
        have hjl : j < m.length := by
         rcases Nat.lt_or_ge j m.length with h | h
         ·exact h
         ·rw [List.getElem?_eq_none h] at hj; cases hj
        have hcj := h4.bor j e g1 (by omega)
        refine ⟨e, hcj, id, cs, g2, by rw [hgetb id (hin.lt j e id hcj g2)]; exact g3, ?_, g5⟩
        obtain ⟨sv, rr⟩ := x
        cases sv with
        | cl f caps =>
         obtain ⟨pv, bb, e1, ps, e2, e3⟩ := g4
         exact ⟨pv, bb, e1, ps, e2, aBc e3 fun k' e' hk' h6 => h4.bor k' e' h6 (by have := oM (kP o1 hb2 j f caps rr hj) k' hk'; omega)⟩
        | _ => exact g4
       ·rw [hget id hi, if_neg]
        intro h6
        obtain ⟨hd, hlt⟩ := (hold id).1 h6
        obtain ⟨k, e, g1, g2⟩ := h4.dirty id hd hlt
        exact hno k e g1 g2
       ·rw [hset] at hno
        have hno : id ∉ (p1.dirty.filter fun id => Nat.blt id p.next).foldr ins p.dirty := hno
        rw [bO] at hno
        rw [hget id hi, if_neg fun h6 => hno (.inl h6)]
       ·rw [hset] at hi
        have hi : id ∈ (p1.dirty.filter fun id => Nat.blt id p.next).foldr ins p.dirty := hi
        rw [bO] at hi
        rcases hi with h6 | h6
        ·obtain ⟨hd, hlt⟩ := (hold id).1 h6
         exact .inr (h4.dirty id hd hlt)
        ·exact .inl h6
       ·rw [hset]
        show id ∈ (p1.dirty.filter fun id => Nat.blt id p.next).foldr ins p.dirty
        rw [bO]; exact .inr hi
       ·rw [hset] at hi
        have hi : id ∈ (p1.wr.filter fun id => Nat.blt id p.next).foldr ins p.wr := hi
        rw [bO] at hi
        rcases hi with h6 | h6
        ·rw [List.mem_filter, fS, djE] at h6
         exact .inr ((h4.wr id h6.1).2 h6.2)
        ·exact .inl h6
     ·cases hst
    ·cases hst
  ·cases h
end
end Go.TV
namespace Go.TV
open Go.AI Go.PI
inductive SkT where
 | n
 | r (tk : List Nat) (fz : List (Nat × Nat)) (cl : List (Nat × Nat × List Nat))
 | s (a b : SkT)
 | c (a b : SkT)
 | b (a : SkT)
 | l (ct : Cut) (a : SkT)
 | o (a : SkT)
 | d (ct : Cut) (a : SkT)
 | i (ts : List Nat) (a : SkT)
def fzN (i : Nat) : List (Nat × Nat) → List aBu
 | [] => []
 | x :: xs => bif Nat.beq x.1 i then .freeze x.2 :: fzN i xs else fzN i xs
def aBE (tk : List Nat) (fz : List (Nat × Nat)) (i : Nat) : List aBu := fzN i fz ++ [.op i (bH i tk)]
def scrS (ops : Array Oper) (tk : List Nat) (fz : List (Nat × Nat)) : Nat → List Nat → List aBu
 | 0, l => l.flatMap (aBE tk fz)
 | f + 1, a :: i :: s :: l => bif isApp ops a i s then .app a i s :: scrS ops tk fz f l else aBE tk fz a ++ scrS ops tk fz f (i :: s :: l)
 | _ + 1, l => l.flatMap (aBE tk fz)
def callN : List (Nat × Nat × List Nat) → Nat → Nat × List Nat
 | [], _ => (0, [])
 | x :: l, i => bif Nat.beq x.1 i then x.2 else callN l i
def stT1 (cl : List (Nat × Nat × List Nat)) : aBu → TStep
 | .op i take => .op i take (callN cl i).1 (callN cl i).2
 | .app a i s => .app a i s
 | .freeze t => .freeze t
def regT (tk : List Nat) (fz : List (Nat × Nat)) (cl : List (Nat × Nat × List Nat)) (id : Nat) (ops : Array Oper) : Bool → TC
 | true => .region id ops true (cG ops.toList []) ((scrS ops tk fz ops.size (mG ops (cG ops.toList []))).map (stT1 cl))
 | false => .region id ops false [] ((scrS ops tk fz ops.size (List.range ops.size)).map (stT1 cl))
def lH : Code → TC
 | .skip => .skip
 | .label l => .label l
 | .region id ops draw => regT [] [] [] id ops draw
 | .seq a b => .seq (lH a) (lH b)
 | .cond x a b => .cond x (lH a) (lH b)
 | .block id a => .block id (lH a)
 | .exit id => .exit id
 | .ret => .ret
 | .scope a => .scope (lH a)
 | c => .other c
def icesT : List Nat → TC → TC
 | [], c => c
 | t :: ts, c => .ice t (icesT ts c)
def eM : SkT → Code → TC
 | .n, c => lH c
 | .d ct x, c => .cut ct (eM x c)
 | .i ts x, c => icesT ts (eM x c)
 | .r tk fz cl, c => match c with | .region id ops draw => regT tk fz cl id ops draw | c => .other c
 | .s x y, c => match c with | .seq a b => .seq (eM x a) (eM y b) | c => .other c
 | .c x y, c => match c with | .cond v a b => .cond v (eM x a) (eM y b) | c => .other c
 | .b x, c => match c with | .block id a => .block id (eM x a) | c => .other c
 | .l ct x, c => match c with | .loop a => .loop ct (eM x a) | c => .other c
 | .o x, c => match c with | .scope a => .scope (eM x a) | c => .other c
theorem gC (a b : List aBu) : dC (a ++ b) = dC a ++ dC b := by
 induction a with
 | nil => rfl
 | cons x a ih => cases x <;> simp [dC, ih]
theorem aC1 (i : Nat) (l : List (Nat × Nat)) : dC (fzN i l) = [] := by
 induction l with
 | nil => rfl
 | cons x l ih => simp only [fzN]; cases Nat.beq x.1 i <;> simp [dC, ih]
theorem nJ (tk : List Nat) (fz : List (Nat × Nat)) (i : Nat) : dC (aBE tk fz i) = [i] := by
 unfold aBE; rw [gC, aC1]; rfl
theorem jN (tk : List Nat) (fz : List (Nat × Nat)) (l : List Nat) : dC (l.flatMap (aBE tk fz)) = l := by
 induction l with
 | nil => rfl
 | cons i l ih => rw [fmC, gC, nJ, ih]; rfl
theorem pN (ops : Array Oper) (tk : List Nat) (fz : List (Nat × Nat)) : ∀ (f : Nat) (l : List Nat), dC (scrS ops tk fz f l) = l := by
 intro f
 induction f with
 | zero => intro l; exact jN tk fz l
 | succ f ih =>
  intro l
  match l with
  | [] => rfl
  | [a] => exact jN tk fz [a]
  | [a, i] => exact jN tk fz [a, i]
  | a :: i :: s :: l =>
   simp only [scrS]
   cases isApp ops a i s with
   | true => simp only [cdt, dC, ih]
   | false => simp only [cdf]; rw [gC, nJ, ih]; rfl
theorem un_stT (cl : List (Nat × Nat × List Nat)) (l : List aBu) : (l.map (stT1 cl)).map TStep.un = l := by
 induction l with
 | nil => rfl
 | cons x l ih => rw [mpC, mpC, ih]; cases x <;> rfl
theorem aC6 (tk : List Nat) (fz : List (Nat × Nat)) (cl : List (Nat × Nat × List Nat)) (id : Nat) (ops : Array Oper) (draw : Bool) : cC (regT tk fz cl id ops draw).pc = .region id ops draw ∧ sR (regT tk fz cl id ops draw).pc := by
 cases draw with
 | true =>
  refine ⟨rfl, ?_⟩
  show cG ops.toList [] = cG ops.toList [] ∧ dC _ = _
  rw [un_stT]; exact ⟨rfl, pN _ _ _ _ _⟩
 | false =>
  refine ⟨rfl, ?_⟩
  show dC _ = _
  rw [un_stT]; exact pN _ _ _ _ _
theorem wearN_ok : ∀ c : Code, cC (lH c).pc = c ∧ sR (lH c).pc := by
 intro c
 induction c with
 | region id ops draw => exact aC6 _ _ _ _ _ _
 | seq a b iha ihb => exact ⟨by simp only [lH, TC.pc, cC, iha.1, ihb.1], iha.2, ihb.2⟩
 | cond x a b iha ihb => exact ⟨by simp only [lH, TC.pc, cC, iha.1, ihb.1], iha.2, ihb.2⟩
 | block id a ih => exact ⟨by simp only [lH, TC.pc, cC, ih.1], ih.2⟩
 | scope a ih => exact ⟨by simp only [lH, TC.pc, cC, ih.1], ih.2⟩
 | _ => exact ⟨rfl, trivial⟩
theorem aAO (ts : List Nat) (c : TC) : cC (icesT ts c).pc = cC c.pc ∧ (sR c.pc → sR (icesT ts c).pc) := by
 induction ts with
 | nil => exact ⟨rfl, id⟩
 | cons t ts ih => exact ⟨ih.1, ih.2⟩
theorem qW : ∀ (s : SkT) (c : Code), cC (eM s c).pc = c ∧ sR (eM s c).pc := by
 intro s
 induction s with
 | n => exact wearN_ok
 | r tk fz cl => intro c; cases c <;> first | exact aC6 _ _ _ _ _ _ | exact ⟨rfl, trivial⟩
 | s x y ihx ihy => intro c; cases c <;> first | exact ⟨by simp only [eM, TC.pc, cC, (ihx _).1, (ihy _).1], (ihx _).2, (ihy _).2⟩ | exact ⟨rfl, trivial⟩
 | c x y ihx ihy => intro c; cases c <;> first | exact ⟨by simp only [eM, TC.pc, cC, (ihx _).1, (ihy _).1], (ihx _).2, (ihy _).2⟩ | exact ⟨rfl, trivial⟩
 | b x ih => intro c; cases c <;> first | exact ⟨by simp only [eM, TC.pc, cC, (ih _).1], (ih _).2⟩ | exact ⟨rfl, trivial⟩
 | l ct x ih => intro c; cases c <;> first | exact ⟨by simp only [eM, TC.pc, cC, (ih _).1], (ih _).2⟩ | exact ⟨rfl, trivial⟩
 | o x ih => intro c; cases c <;> first | exact ⟨by simp only [eM, TC.pc, cC, (ih _).1], (ih _).2⟩ | exact ⟨rfl, trivial⟩
 | d ct x ih => intro c; exact ⟨(ih c).1, (ih c).2⟩
 | i ts x ih => intro c; exact ⟨by simp only [eM, (aAO ts _).1, (ih c).1], (aAO ts _).2 (ih c).2⟩
structure Ins where
 sig : Sig
 sk : SkT
def lA (P : Program) (f : Nat) : Code := match P.funcs[f]? with | some fn => fn.body.getD .skip | none => .skip
def aBG (P : Program) (f : Nat) : List ResultVar := match P.funcs[f]? with | some fn => fn.results.toList | none => []
def mZ : List (Nat × Ins) → Nat → Option Ins
 | [], _ => none
 | x :: l, i => bif Nat.beq x.1 i then some x.2 else mZ l i
def sC : List (Nat × Ins) → Nat → Option Ins
 | [], _ => none
 | x :: l, f => bif Nat.beq x.2.sig.f f then some x.2 else sC l f
def sigL (l : List (Nat × Ins)) (i : Nat) : Option Sig := (mZ l i).map (·.sig)
def tabL (P : Program) (l : List (Nat × Ins)) : TTab := fun i => match mZ l i with
 | some x => some (eM x.sk (lA P x.sig.f), aBG P x.sig.f)
 | none => none
def wR (P : Program) (l : List (Nat × Ins)) : PTab := fun f => match sC l f with
 | some x => some ((eM x.sk (lA P f)).pc, aBG P f)
 | none => none
def okI (P : Program) (l : List (Nat × Ins)) (x : Ins) : Prop := ∃ y, sC l x.sig.f = some y ∧ (eM y.sk (lA P x.sig.f)).pc = (eM x.sk (lA P x.sig.f)).pc
theorem tabL_ok {P : Program} {l : List (Nat × Ins)} (h : ∀ i x, mZ l i = some x → okI P l x) : ∀ i s code rs, sigL l i = some s → tabL P l i = some (code, rs) → wR P l s.f = some (code.pc, rs) := by
 intro i s code rs h1 h2
 unfold sigL at h1
 unfold tabL at h2
 cases hx : mZ l i with
 | none => rw [hx] at h1; cases h1
 | some x =>
  rw [hx] at h1 h2
  simp only [omS, ojE, pjE] at h1 h2
  obtain ⟨y, g1, g2⟩ := h i x hx
  subst h1
  obtain ⟨rfl, rfl⟩ := h2
  simp only [wR, g1, g2]
theorem ptabL_ok {P : Program} (h : pX P = true) {l : List (Nat × Ins)} (hb : ∀ f x, sC l f = some x → ∃ fn c, P.funcs[f]? = some fn ∧ fn.body = some c) : TabOK P (wR P l) := by
 intro f c rs hf
 unfold wR at hf
 split at hf <;> try cases hf
 rename_i x hx
 obtain ⟨fn, cd, h1, h2⟩ := hb f x hx
 have e1 : lA P f = cd := by simp only [lA, h1, h2, Option.getD_some]
 refine ⟨fn, h1, by rw [h2, (qW _ _).1, e1], by simp only [aBG, h1], (qW _ _).2, ?_⟩
 simp only [pX, bjE, List.all_eq_true] at h
 have := h.1 fn (by have := Array.mem_of_getElem? h1; simpa using this)
 simp only [nO, h2, bjE] at this
 rw [(qW _ _).1, e1]; exact this.1
section
variable {U : gU} {T : TP U.D} {β : Type} {c : oQ U.D} {L : Nat}
theorem wM {f g : TS U.D → TM U.D → TK U.D β → Option β} (h : ∀ S M K, f S M K = g S M K) (K : TK U.D β) : aCS U f K = aCS U g K := by
 funext fl S M
 cases fl <;> first | exact h S M K | rfl
theorem exD : ∀ (code : TC) (S : TS U.D) (M : TM U.D) (K : TK U.D β), jC U T c (Dx U T c L) (Ex U T c L) code S M K = dW U T c L code S M K := by
 intro code
 induction code with
 | seq a b iha ihb => intro S M K; simp only [jC, dW]; rw [iha, wM ihb]
 | cond x a b iha ihb => intro S M K; simp only [jC, dW, iha, ihb]
 | block id a ih => intro S M K; simp only [jC, dW, ih]
 | scope a ih => intro S M K; simp only [jC, dW, ih]
 | ice t a ih => intro S M K; simp only [jC, dW, ih]
 | _ => intro S M K; rfl
end
end Go.TV
