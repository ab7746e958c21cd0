import Derived.Test.YtbggbjpobkkbaaaGreatDoorKp
set_option linter.unusedVariables false
set_option linter.unusedSimpArgs false
set_option linter.constructorNameAsVariable false
namespace Go.Rf
open Go.AI Go.Proofs Go.RowKit Go.Shelf
attribute [local go_sem] Oper.semAt_some
noncomputable def aEP : Code := match Tryz.f127.body with | some (.seq _ (.block _ (.loop c))) => c | _ => .skip
theorem list34 {l : List Value} (h : l.length = 34) : ∃ t0 t1 t2 t3 t4 t5 t6 t7 t8 t9 t10 t11 t12 t13 t14 t15 t16 t17 t18 t19 t20 t21 t22 t23 t24 t25 t26 t27 t28 t29 t30 t31 t32 t33, l = [t0, t1, t2, t3, t4, t5, t6, t7, t8, t9, t10, t11, t12, t13, t14, t15, t16, t17, t18, t19, t20, t21, t22, t23, t24, t25, t26, t27, t28, t29, t30, t31, t32, t33] := by
 match l, h with
 | t0 :: t1 :: t2 :: t3 :: t4 :: t5 :: t6 :: t7 :: t8 :: t9 :: t10 :: t11 :: t12 :: t13 :: t14 :: t15 :: t16 :: t17 :: t18 :: t19 :: t20 :: t21 :: t22 :: t23 :: t24 :: t25 :: t26 :: t27 :: t28 :: t29 :: t30 :: t31 :: t32 :: t33 :: [], _ => exact ⟨t0, t1, t2, t3, t4, t5, t6, t7, t8, t9, t10, t11, t12, t13, t14, t15, t16, t17, t18, t19, t20, t21, t22, t23, t24, t25, t26, t27, t28, t29, t30, t31, t32, t33, rfl⟩
structure Fr (L bA bU : Nat) (sl : Value) (n : Nat) (i : Int) (a : Act) : Prop where
 d : a.defers = []
 sz : a.tmps.size = 34
 h0 : a.tmps.getD 0 undef = .func (.yield L) #[] #[]
 h1 : a.tmps.getD 1 undef = .pointer (some ⟨bA, 0, none⟩)
 h2 : a.tmps.getD 2 undef = .pointer (some ⟨bU, 0, none⟩)
 h9 : a.tmps.getD 9 undef = sl
 h10 : a.tmps.getD 10 undef = .int .i64 n
 h11 : a.tmps.getD 11 undef = .int .i64 i
theorem Fr.ex {L bA bU : Nat} {sl : Value} {n : Nat} {i : Int} {a : Act} (h : Fr L bA bU sl n i a) : ∃ j3 j4 j5 j6 j7 j8 j12 j13 j14 j15 j16 j17 j18 j19 j20 j21 j22 j23 j24 j25 j26 j27 j28 j29 j30 j31 j32 j33 : Value, a = { tmps := #[.func (.yield L) #[] #[], .pointer (some ⟨bA, 0, none⟩), .pointer (some ⟨bU, 0, none⟩), j3, j4, j5, j6, j7, j8, sl, .int .i64 n, .int .i64 i, j12, j13, j14, j15, j16, j17, j18, j19, j20, j21, j22, j23, j24, j25, j26, j27, j28, j29, j30, j31, j32, j33], defers := [] } := by
 obtain ⟨⟨ts⟩, ds⟩ := a;obtain ⟨d, sz, h0, h1, h2, h9, h10, h11⟩ := h;obtain ⟨j0, j1, j2, j3, j4, j5, j6, j7, j8, j9, j10, j11, j12, j13, j14, j15, j16, j17, j18, j19, j20, j21, j22, j23, j24, j25, j26, j27, j28, j29, j30, j31, j32, j33, rfl⟩ := list34 (l := ts) sz;cases d;refine ⟨j3, j4, j5, j6, j7, j8, j12, j13, j14, j15, j16, j17, j18, j19, j20, j21, j22, j23, j24, j25, j26, j27, j28, j29, j30, j31, j32, j33, ?_⟩;rw [← h0, ← h1, ← h2, ← h9, ← h10, ← h11];rfl
structure Hd (p : Prop) : Prop where
 h : p
theorem cond_t {P : Program} {call : FuncId → Array Value → St → Option (Value × St)} {L : Nat} {x : Operand} {a b : Code} {S : Slots} {σ : St} (h : ev S x = .bool true) : aX P call L (.cond x a b) S σ = aX P call L a S σ := by simp only [aX, h]
theorem fG (ts : Array Value) : (fr ts).tmps = ts := rfl
theorem lL {n : Nat} {P : Program} {ops : Array Oper} {Q : Exit → Act → World → Prop} {rest : List Oper} {o : Oper} {a : Act} {w w' : World} {v : Value} (hg : o.guard = none)
    (h : (execOp a.eval o).run P w = .ok (.value v) w') (k : wpListIn Fence.wide n P ops Q rest (a.put o.dst v) w') : wpListIn Fence.wide n P ops Q (o :: rest) a w := by
 refine wpListIn_plain hg fun K hK => ?_
 unfold Oper.wpIn;rw [Fence.wide_round, Oper.semAt_none];refine ⟨fun f _ => trivial, ?_⟩
 rw [h, Oper.uponIn_value];exact hK _ _ k
theorem add_run {ρ : Operand → Value} {o : Oper} {x : Operand} {i : Int} {t2 : TypeId} (ho : o.op = .binOp .add 3 x (.const (.int .i64 1)) t2) (hx : ρ x = .int .i64 i) (hc : ρ (.const (.int .i64 1)) = .int .i64 1) (w : World) : (execOp ρ o).run Tryz.prog w = .ok (.value (.int .i64 (IntKind.i64.wrap (i + 1)))) w := by
 unfold execOp; rw [ho]; simp only [hx, hc]; rfl
theorem slc_inv {μ : Mp} {id off n c c' : Nat} {sa' : Option Addr} (h : VR μ (.slice (some ⟨id, off, none⟩) n c) (.slice sa' n c')) : ∃ p : AI.Place, μ id = some p ∧ sa' = some ⟨p.b, p.o + off, none⟩ := by
 cases h with
 | same _ h => simp [aC] at h
 | slc _ _ _ _ _ p hp => exact ⟨p, hp, rfl⟩
theorem fK {w1 : W0} {μ : Mp} {σ : St} {W : World} {id o : Nat} {p : AI.Place} {l : List Value} (Z : Sim w1 Tryz.prog μ σ W) (hp : μ id = some p) (h : eG Tryz.prog σ 38 (.pointer (some ⟨id, o, none⟩)) = some (.agg l.toArray)) :
    ∃ l', VRL μ l l' ∧ ∀ k v, l'[k]? = some v → W.cell? ⟨p.b, p.o + o + k, none⟩ = some v := by
 unfold eG at h;have e1 : iG Tryz.prog 38 = some true := by kernel_rfl
 have e2 : iJ Tryz.prog 38 = some 11 := by kernel_rfl
 rw [e1, e2] at h;simp only at h;split at h
 ·rename_i cs m e;simp only [mjE] at h;obtain ⟨l0, hc, he⟩ := h;have : l0 = l := by simpa using he
  subst this;unfold cut at hc;simp only [cond_eq_ite] at hc;split at hc
  ·rename_i hh;cases hc;have hh := nqE hh;have hget : σ.get id = some (.cells cs m) ∧ σ.good m = true := by
    unfold St.row at e;split at e
    ·rename_i cs' m' e3;simp only [cond_eq_ite] at e;split at e
     ·rename_i hg; cases e; exact ⟨e3, hg⟩
     ·cases e
    ·cases e
   obtain ⟨⟨C, t, frz, r1, r2, r3⟩, r4, r5, r6⟩ := Z.row id p cs m hp hget.1 hget.2;have key : ∀ (n : Nat) (d : List Value), d = (cs.drop o).take n → ∃ l', VRL μ d l' ∧ ∀ k v, l'[k]? = some v → C[p.o + o + k]? = some v := by
    intro n;induction n with
    | zero => intro d hd; subst hd; exact ⟨[], by rw [List.take_zero]; exact .nil, fun k v h => by simp at h⟩
    | succ n ihn =>
     intro d hd;obtain ⟨l1, q1, q2⟩ := ihn _ rfl;rcases Nat.lt_or_ge n (cs.drop o).length with hlt | hge
     ·have e4 : (cs.drop o)[n]? = some ((cs.drop o)[n]'hlt) := geG hlt;obtain ⟨u, hu, hr⟩ := r2 (o + n) ((cs.drop o)[n]'hlt) (by rw [← List.getElem?_drop]; exact e4)
      refine ⟨l1 ++ [u], ?_, fun k v hk => ?_⟩
      ·subst hd; rw [List.take_add_one, e4]; exact q1.append (.cons hr .nil)
      ·rw [List.getElem?_append] at hk;have hl1 : l1.length = n := by rw [← q1.1, List.length_take]; omega
       split at hk
       ·exact q2 k v hk
       ·rename_i hk2;rw [List.getElem?_singleton] at hk;split at hk
        ·rename_i hk3;cases hk;rw [show p.o + o + k = p.o + (o + n) by omega]; exact hu
        ·cases hk
     ·refine ⟨l1, ?_, q2⟩;subst hd;rw [List.take_of_length_le (by omega)]
      rw [List.take_of_length_le hge] at q1;exact q1
   obtain ⟨l', q1, q2⟩ := key 11 _ rfl;exact ⟨l', q1, fun k v hk => aP r1 (q2 k v hk)⟩
  ·cases hc
 ·cases h
set_option maxHeartbeats 4000000 in
set_option maxRecDepth 100000 in
theorem loop_ok {w0 : W0} {O : Nat → Option Obj} {call : FuncId → Array Value → St → Option (Value × St)} (hcall : ∀ w1 : W0, w1.toWorld = w0.toWorld → eC w1 Tryz.prog call)
    {L D bA bU L0 n c c' : Nat} {fn : FuncId} {ts : Array Value} {vo uv : Value} {sa sa' : Option Addr} {Q : Exit → Act → World → Prop} {fl : Fl} {S' : Slots} {σ' : St} {u0 u1 u2 u3 u4 u5 u6 u7 u8 u9 u10 : Value} {frU : Nat × Nat}
    (hts : 68 ≤ ts.size) (hL : O L = some (.loop (yX fn ts D .ready none))) (hL0 : w0.heap.size ≤ L) (hU : O bU = some (.cells #[u0, u1, u2, u3, u4, u5, u6, u7, u8, u9, u10] 38 frU)) :
    ∀ (m : Nat) (i : Int) (S : Slots) (σ : St) (W : World) (μ : Mp) (a : Act), aDs (fun S σ => aX Tryz.prog call L0 cdL S σ) m S σ = some (fl, S', σ') →
      S.at 70 = uv → VR μ uv (.agg #[u0, u1, u2, u3, u4, u5, u6, u7, u8, u9, u10]) → S.at 71 = .slice sa n c → VR μ (.slice sa n c) (.slice sa' n c') → S.at 72 = .int .i64 n → S.at 73 = .int .i64 i → S.at 5 = vo → VR μ vo (ts.getD 5 undef) →
      Sim (wO w0 O) Tryz.prog μ σ W → Fr L bA bU (.slice sa' n c') n i a →
      (∀ W' μ' a', Sim (wO w0 O) Tryz.prog μ' σ' W' → Ext σ.next μ μ' → σ.next ≤ σ'.next → fl = .exit 5 → S'.at 5 = vo → a'.defers = [] → Q (.exit 0) a' W') →
      Code.roundsIn Fence.wide 2 Tryz.prog aEP Q m a W := by
 intro m;induction m with
 | zero => intro i S σ W μ a h; simp [aDs] at h
 | succ m ih =>
  intro i S σ W μ a h g70 r70 g71 r71 g72 g73 g5 r5 Z hF post;rw [roundsIn_succ];simp only [aDs] at h;obtain ⟨j3, j4, j5, j6, j7, j8, j12, j13, j14, j15, j16, j17, j18, j19, j20, j21, j22, j23, j24, j25, j26, j27, j28, j29, j30, j31, j32, j33, rfl⟩ := hF.ex
  conv => arg 4; unfold aEP; dsimp only [Tryz.f127]
  cases hx : aX Tryz.prog call L0 cdL S σ with
  | none => rw [hx] at h; cases h
  | some r =>
  obtain ⟨f1, S1, σ1⟩ := r;rw [hx] at h;unfold cdL at hx;rcases eN hx with ⟨S2, σ2, e1, hx1⟩ | ⟨hne, e1⟩
  rotate_left
  ·exact absurd (bR e1).1 hne
  clear hx;obtain ⟨-, rfl, b74, bk⟩ := opsB_inv g73 g72 e1;by_cases hin : i < (n : Int)
  rotate_left
  ·
   have e74 : ev S2 (.tmp 74) = .bool false := by show S2.at 74 = _; rw [b74, decide_eq_false hin]
   have hx2 : f1 = .exit 5 ∧ S1 = S2 ∧ σ1 = up σ 1 := by
    simp only [aX, e74] at hx1;cases hx1; exact ⟨rfl, rfl, rfl⟩
   obtain ⟨rfl, rfl, rfl⟩ := hx2;simp only [ojE, pjE] at h;obtain ⟨rfl, rfl, rfl⟩ := h;have hp := fun a' hd => post W μ a' (Z.next (n := σ.next + 1) (Nat.le_add_right _ _)) (Ext.refl _ _) (Nat.le_add_right _ _) rfl (by rw [bk 5 (by omega)]; exact g5) hd
   clear post ih;generalize Code.roundsIn Fence.wide 2 Tryz.prog aEP Q m = K
   gi_wp2
   all_goals rfl
  ·
   have e74 : ev S2 (.tmp 74) = .bool true := by show S2.at 74 = _; rw [b74, decide_eq_true hin]
   rcases eN hx1 with ⟨S3, σ3, e2, hx2⟩ | ⟨hne, e2⟩
   rotate_left
   ·simp only [aX, e74] at e2; cases e2; exact absurd rfl hne
   have q2 : S3 = S2 ∧ σ3 = up σ 1 := by simp only [aX, e74] at e2; cases e2; exact ⟨rfl, rfl⟩
   obtain ⟨rfl, rfl⟩ := q2;clear hx1 e2;rcases eN hx2 with ⟨S4, σ4, e3, hx3⟩ | ⟨hne, e3⟩
   rotate_left
   ·exact absurd (bR e3).1 hne
   obtain ⟨-, hi0, -, id, off, l, z, z', rfl, ld, hl, l1, b76, bk4, rfl⟩ := opsC_inv (by rw [bk 71 (by omega)]; exact g71) (by rw [bk 73 (by omega)]; exact g73) e3
   clear hx2;rcases eN hx3 with ⟨S5, σ5, e4, hx4⟩ | ⟨hne, e4⟩
   rotate_left
   ·exact absurd (bR e4).1 hne
   obtain ⟨-, vs, σ6, s, lt, bb, z5, z5', hc1, v0, v1, v2, hlt, lt1, b78, b79, b80, bk5, rfl⟩ := opsD_inv e4;clear hx3;obtain ⟨p, hp, rfl⟩ := slc_inv r71;rw [b76, bk4 70 (by omega), bk 70 (by omega), g70] at hc1
   have ZA : Sim (wO w0 O) Tryz.prog μ (up (up σ 1) 4) W := (Z.next (n := σ.next + 1) (Nat.le_add_right _ _)).next (n := σ.next + 1 + 4) (Nat.le_add_right _ _)
   obtain ⟨l', rl, hcl⟩ := fK ZA hp ld;have ZB := aDV (z := z) (z' := z') ZA (k := (up σ 1).next + 2) (Z.dom _ (by show σ.next ≤ σ.next + 1 + 2; omega))
   obtain ⟨x0, x1, x2, x3, x4, x5, x6, x7, x8, x9, x10, rfl⟩ := aBE (l := l') (by rw [← rl.1]; exact hl)
   obtain ⟨y0, y1, y2, y3, y4, y5, y6, y7, y8, y9, y10, rfl⟩ := aBE (l := l) hl;generalize hσB : (((up (up σ 1) 4).put ((up σ 1).next + 2) (AObj.cells z boxMeta)).put ((up σ 1).next + 2) (AObj.cells z' boxMeta)) = σB at *
   have nB : σB.next = σ.next + 5 := by rw [← hσB]; rfl
   have hox : ∀ x ∈ [x0, x1, x2, x3, x4, x5, x6, x7, x8, x9, x10], one x = true := by
    have := rl.one_eq; rw [l1] at this; exact List.all_eq_true.1 this
   have hsx0 := aS (hox x0 (by simp)) Tryz.prog
   have hsx1 := aS (hox x1 (by simp)) Tryz.prog
   have hsx2 := aS (hox x2 (by simp)) Tryz.prog
   have hsx3 := aS (hox x3 (by simp)) Tryz.prog
   have hsx4 := aS (hox x4 (by simp)) Tryz.prog
   have hsx5 := aS (hox x5 (by simp)) Tryz.prog
   have hsx6 := aS (hox x6 (by simp)) Tryz.prog
   have hsx7 := aS (hox x7 (by simp)) Tryz.prog
   have hsx8 := aS (hox x8 (by simp)) Tryz.prog
   have hsx9 := aS (hox x9 (by simp)) Tryz.prog
   have hsx10 := aS (hox x10 (by simp)) Tryz.prog
   have hbU : bU < W.heap.size := (Array.getElem?_eq_some_iff.1 (Z.kept.oth bU _ hU).1).1;have hhU := (Z.kept.oth bU _ hU).1;have cu0 : W.cell? ⟨bU, 0, none⟩ = some u0 := aP hhU rfl;have cu1 : W.cell? ⟨bU, 1, none⟩ = some u1 := aP hhU rfl;have cu2 : W.cell? ⟨bU, 2, none⟩ = some u2 := aP hhU rfl;have cu3 : W.cell? ⟨bU, 3, none⟩ = some u3 := aP hhU rfl;have cu4 : W.cell? ⟨bU, 4, none⟩ = some u4 := aP hhU rfl;have cu5 : W.cell? ⟨bU, 5, none⟩ = some u5 := aP hhU rfl;have cu6 : W.cell? ⟨bU, 6, none⟩ = some u6 := aP hhU rfl;have cu7 : W.cell? ⟨bU, 7, none⟩ = some u7 := aP hhU rfl;have cu8 : W.cell? ⟨bU, 8, none⟩ = some u8 := aP hhU rfl;have cu9 : W.cell? ⟨bU, 9, none⟩ = some u9 := aP hhU rfl;have cu10 : W.cell? ⟨bU, 10, none⟩ = some u10 := aP hhU rfl;have cx0 : W.cell? ⟨p.b, p.o + off + i.toNat * 11, none⟩ = some x0 := by have := hcl 0 x0 rfl; rw [show p.o + (off + i.toNat * 11) + 0 = p.o + off + i.toNat * 11 by omega] at this; exact this
   have cx1 : W.cell? ⟨p.b, p.o + off + i.toNat * 11 + 1, none⟩ = some x1 := by have := hcl 1 x1 rfl; rw [show p.o + (off + i.toNat * 11) + 1 = p.o + off + i.toNat * 11 + 1 by omega] at this; exact this
   have cx2 : W.cell? ⟨p.b, p.o + off + i.toNat * 11 + 2, none⟩ = some x2 := by have := hcl 2 x2 rfl; rw [show p.o + (off + i.toNat * 11) + 2 = p.o + off + i.toNat * 11 + 2 by omega] at this; exact this
   have cx3 : W.cell? ⟨p.b, p.o + off + i.toNat * 11 + 3, none⟩ = some x3 := by have := hcl 3 x3 rfl; rw [show p.o + (off + i.toNat * 11) + 3 = p.o + off + i.toNat * 11 + 3 by omega] at this; exact this
   have cx4 : W.cell? ⟨p.b, p.o + off + i.toNat * 11 + 4, none⟩ = some x4 := by have := hcl 4 x4 rfl; rw [show p.o + (off + i.toNat * 11) + 4 = p.o + off + i.toNat * 11 + 4 by omega] at this; exact this
   have cx5 : W.cell? ⟨p.b, p.o + off + i.toNat * 11 + 5, none⟩ = some x5 := by have := hcl 5 x5 rfl; rw [show p.o + (off + i.toNat * 11) + 5 = p.o + off + i.toNat * 11 + 5 by omega] at this; exact this
   have cx6 : W.cell? ⟨p.b, p.o + off + i.toNat * 11 + 6, none⟩ = some x6 := by have := hcl 6 x6 rfl; rw [show p.o + (off + i.toNat * 11) + 6 = p.o + off + i.toNat * 11 + 6 by omega] at this; exact this
   have cx7 : W.cell? ⟨p.b, p.o + off + i.toNat * 11 + 7, none⟩ = some x7 := by have := hcl 7 x7 rfl; rw [show p.o + (off + i.toNat * 11) + 7 = p.o + off + i.toNat * 11 + 7 by omega] at this; exact this
   have cx8 : W.cell? ⟨p.b, p.o + off + i.toNat * 11 + 8, none⟩ = some x8 := by have := hcl 8 x8 rfl; rw [show p.o + (off + i.toNat * 11) + 8 = p.o + off + i.toNat * 11 + 8 by omega] at this; exact this
   have cx9 : W.cell? ⟨p.b, p.o + off + i.toNat * 11 + 9, none⟩ = some x9 := by have := hcl 9 x9 rfl; rw [show p.o + (off + i.toNat * 11) + 9 = p.o + off + i.toNat * 11 + 9 by omega] at this; exact this
   have cx10 : W.cell? ⟨p.b, p.o + off + i.toNat * 11 + 10, none⟩ = some x10 := by have := hcl 10 x10 rfl; rw [show p.o + (off + i.toNat * 11) + 10 = p.o + off + i.toNat * 11 + 10 by omega] at this; exact this
   obtain ⟨O1, hO1⟩ : ∃ O1, O1 = lD O W.heap.size (.cells #[x0, x1, x2, x3, x4, x5, x6, x7, x8, x9, x10] 38 (0, 0)) := ⟨_, rfl⟩;have ZX : Sim (wO w0 O1) Tryz.prog μ (up σB 6) (W.alloc (.cells #[x0, x1, x2, x3, x4, x5, x6, x7, x8, x9, x10] 38)) := by
    rw [hO1];exact gW (jP (ZB.next (n := σB.next + 6) (Nat.le_add_right _ _)) (fun C t fr h => by cases h; rfl)) (World.alloc_heap_new _ _) (jW ZB)
   obtain ⟨-, hC⟩ := hcall (wO w0 O1) rfl _ #[.agg #[y0, y1, y2, y3, y4, y5, y6, y7, y8, y9, y10], uv] #[.agg #[x0, x1, x2, x3, x4, x5, x6, x7, x8, x9, x10], .agg #[u0, u1, u2, u3, u4, u5, u6, u7, u8, u9, u10]] _ _ _ μ _ hc1 ZX (.cons (.mkAgg rl) (.cons r70 .nil));obtain ⟨ll, rfl, hll⟩ := agg11 hlt;have hbb : ∃ b, bb = .bool b := by
    rcases eN hx4 with ⟨S6, σ7, e5, -⟩ | ⟨-, e5⟩ <;>
    ·have e80 : ev S5 (.tmp 80) = bb := b80;simp only [aX, e80] at e5;split at e5
     ·exact ⟨_, rfl⟩
     ·exact ⟨_, rfl⟩
     ·cases e5
   obtain ⟨b, rfl⟩ := hbb
   replace hcall := @Hd.mk _ hcall
   clear hhU hc1 ZX e1 e3 e4 hcl hF
   replace hC := Hd.mk hC; replace h := Hd.mk h; replace ih := @Hd.mk _ ih; replace post := Hd.mk post; replace hx4 := Hd.mk hx4; replace Z := Hd.mk Z; replace ZA := Hd.mk ZA; replace ZB := Hd.mk ZB
   gi_wp2
   refine ⟨trivial, ((callsIn_wide (n := 1)).2 hC.h).mono ?_⟩;rintro e w' ⟨μ2, r', rfl, hr, Z2, E2, n2⟩;obtain ⟨us, rfl, hus⟩ := hr.tuple_inv;obtain ⟨s', us0, rs⟩ := hus.get (i := 0) (x := s) (by simpa using v0)
   obtain ⟨lt', us1, rlt⟩ := hus.get (i := 1) (by simpa using v1)
   obtain ⟨b', us2, rb⟩ := hus.get (i := 2) (by simpa using v2)
   rw [Array.getElem?_toList] at us0 us1 us2;obtain ⟨ll', rfl, rll⟩ := vr_agg rlt;obtain ⟨l0, l1, l2, l3, l4, l5, l6, l7, l8, l9, l10, rfl⟩ := aBE (l := ll') (by rw [← rll.1]; exact hll)
   have hol : ∀ x ∈ [l0, l1, l2, l3, l4, l5, l6, l7, l8, l9, l10], one x = true := by
    have h9 := rll.one_eq; rw [show ll.all one = true from (by simpa [Value.cells] using lt1)] at h9; exact List.all_eq_true.1 h9
   have hb' := rb.bool_inv;subst hb';have hsl0 := aS (hol l0 (by simp)) Tryz.prog
   have hsl1 := aS (hol l1 (by simp)) Tryz.prog
   have hsl2 := aS (hol l2 (by simp)) Tryz.prog
   have hsl3 := aS (hol l3 (by simp)) Tryz.prog
   have hsl4 := aS (hol l4 (by simp)) Tryz.prog
   have hsl5 := aS (hol l5 (by simp)) Tryz.prog
   have hsl6 := aS (hol l6 (by simp)) Tryz.prog
   have hsl7 := aS (hol l7 (by simp)) Tryz.prog
   have hsl8 := aS (hol l8 (by simp)) Tryz.prog
   have hsl9 := aS (hol l9 (by simp)) Tryz.prog
   have hsl10 := aS (hol l10 (by simp)) Tryz.prog
   have hhX := (Z2.kept.oth W.heap.size (.cells #[x0, x1, x2, x3, x4, x5, x6, x7, x8, x9, x10] 38 (0, 0)) (by show O1 _ = _; rw [hO1]; exact nN _ _ _)).1
   have hbX : W.heap.size < w'.heap.size := (Array.getElem?_eq_some_iff.1 hhX).1;clear cx0 cx1 cx2 cx3 cx4 cx5 cx6 cx7 cx8 cx9 cx10 cu0 cu1 cu2 cu3 cu4 cu5 cu6 cu7 cu8 cu9 cu10;have cx0 : w'.cell? ⟨W.heap.size, 0, none⟩ = some x0 := aP hhX rfl;have cx1 : w'.cell? ⟨W.heap.size, 1, none⟩ = some x1 := aP hhX rfl;have cx2 : w'.cell? ⟨W.heap.size, 2, none⟩ = some x2 := aP hhX rfl;have cx3 : w'.cell? ⟨W.heap.size, 3, none⟩ = some x3 := aP hhX rfl;have cx4 : w'.cell? ⟨W.heap.size, 4, none⟩ = some x4 := aP hhX rfl;have cx5 : w'.cell? ⟨W.heap.size, 5, none⟩ = some x5 := aP hhX rfl;have cx6 : w'.cell? ⟨W.heap.size, 6, none⟩ = some x6 := aP hhX rfl;have cx7 : w'.cell? ⟨W.heap.size, 7, none⟩ = some x7 := aP hhX rfl;have cx8 : w'.cell? ⟨W.heap.size, 8, none⟩ = some x8 := aP hhX rfl;have cx9 : w'.cell? ⟨W.heap.size, 9, none⟩ = some x9 := aP hhX rfl;have cx10 : w'.cell? ⟨W.heap.size, 10, none⟩ = some x10 := aP hhX rfl;clear hhX;have kD : μ2 (σB.next + 4) = none := by
    rw [E2.2 (σB.next + 4) (by show σB.next + 4 < σB.next + 6; omega)]
    exact ZB.h.dom _ (Nat.le_add_right _ _)
   have ZD := Hd.mk (aDV (z := z5) (z' := z5') Z2 kD);generalize hσD : ((σ6.put (σB.next + 4) (AObj.cells z5 boxMeta)).put (σB.next + 4) (AObj.cells z5' boxMeta)) = σD at *
   have nD : σD.next = σ6.next := by rw [← hσD]; rfl
   replace Z2 := Hd.mk Z2
   replace E2 := Hd.mk E2
   gi_wp2
   rename_i K5 hK5 K hK;refine Go.wpIn_mono (Q := zO K) ?_ (fun e a w h => by cases e <;> first | exact h | exact h.elim)
   have tail : ∀ (ts' : Array Value) (w3 : World) (μ3 : Mp) (σE : St), Fr L bA bU (.slice (some ⟨p.b, p.o + off, none⟩) n c') n i (fr ts') → ts'.getD 32 undef = .bool false →
          Sim (wO w0 O) Tryz.prog μ3 σE w3 → Ext σ.next μ μ3 → σ.next ≤ σE.next → (∃ S6, (∀ k, k < 77 → S6.at k = S5.at k) ∧ aX Tryz.prog call L0 (.region 55 opsF false) S6 σE = some (f1, S1, σ1)) → K (fr ts') w3 := by
    intro ts' w3 μ3 σE hF' h32 ZE EE hn hAI;obtain ⟨S6, bk6, hx5⟩ := hAI;have h := h.h;obtain ⟨rfl, rfl, f73, fk⟩ := opsF_inv (i := i) (by rw [bk6 73 (by omega), bk5 73 (by omega), bk4 73 (by omega), bk 73 (by omega)]; exact g73) hx5
    simp only at h;refine hK _ _ ?_;refine wpIn_cond_false (by rw [cO]; exact h32) ?_
    apply wpIn_skip;simp only [Exit.inBlock, Exit.then];refine hK5 _ _ ?_;refine wpIn_region_lit ?_;refine lL rfl (add_run (i := i) rfl (by rw [cO]; exact hF'.h11) rfl _) ?_
    refine lL rfl (lV rfl _) ?_;refine wpListIn_nil ?_;simp only [Exit.then];have sk : ∀ k, k < 73 → S1.at k = S.at k := fun k hk => by rw [fk k (by omega) (by omega), bk6 k (by omega), bk5 k (by omega), bk4 k (by omega), bk k (by omega)]
    have sz' : ts'.size = 34 := hF'.sz;refine ih.h _ S1 (up σE 2) w3 μ3 _ h (by rw [sk 70 (by omega)]; exact g70) (r70.mono EE) (by rw [sk 71 (by omega)]; exact g71) (r71.mono EE) (by rw [sk 72 (by omega)]; exact g72) f73 (by rw [sk 5 (by omega)]; exact g5) (r5.mono EE) (ZE.next (n := σE.next + 2) (Nat.le_add_right _ _)) ?_ ?_
    ·simp only [eI];refine ⟨rfl, by simp [fr, sz'], ?_, ?_, ?_, ?_, ?_, ?_⟩
     ·rw [fG, aG (by omega), aG (by omega)]; exact hF'.h0
     ·rw [fG, aG (by omega), aG (by omega)]; exact hF'.h1
     ·rw [fG, aG (by omega), aG (by omega)]; exact hF'.h2
     ·rw [fG, aG (by omega), aG (by omega)]; exact hF'.h9
     ·rw [fG, aG (by omega), aG (by omega)]; exact hF'.h10
     ·rw [fG, bK (by simp [sz'])]; rw [cO, bK (by omega)]
    ·intro W' μ' a' Z' E' hn' hfl hs hd;exact post.h W' μ' a' Z' (EE.trans E' (by show σ.next ≤ σE.next + 2; omega)) (by have : σE.next + 2 ≤ σ'.next := hn'; omega) hfl hs hd
   have leO : ∀ k o, O k = some o → k < W.heap.size := fun k o hk => (Array.getElem?_eq_some_iff.1 (Z.h.kept.oth k o hk).1).1
   have hOO1 : ∀ k o, O k = some o → O1 k = some o := fun k o hk => by
    rw [hO1]; unfold lD; rw [if_neg (by have := leO k o hk; omega)]; exact hk
   have EE2 : Ext σ.next μ μ2 := E2.h.mono (by show σ.next ≤ σB.next + 6; omega)
   have nn2 : σ.next ≤ σD.next := by rw [nD]; have : σB.next + 6 ≤ σ6.next := n2; omega
   have ZP : Sim (wO w0 O1) Tryz.prog μ2 σD (w'.alloc (.cells #[l0, l1, l2, l3, l4, l5, l6, l7, l8, l9, l10] 38)) := jP ZD.h (fun C t fr h => by cases h; rfl)
   cases b with
   | false =>
    have hx5 : aX Tryz.prog call L0 (.region 55 opsF false) S5 σD = some (f1, S1, σ1) := by
     have hx4 := hx4.h;have e80 : ev S5 (.tmp 80) = .bool false := b80;rcases eN hx4 with ⟨S6, σ7, e5, e6⟩ | ⟨hne, e5⟩
     ·simp only [aX, e80] at e5; cases e5; exact e6
     ·simp only [aX, e80] at e5; cases e5; exact absurd rfl hne
    refine r4_false rfl rfl ?_;intro ts' hsz' lo h32;exact tail ts' _ μ2 σD ⟨rfl, hsz', lo 0 (by omega), lo 1 (by omega), lo 2 (by omega), lo 9 (by omega), lo 10 (by omega), lo 11 (by omega)⟩ h32 (lM (aA0 ZP) hOO1) EE2 nn2 ⟨S5, fun _ _ => rfl, hx5⟩
   | true =>
    have hx5 : ∃ S6 σ7, aX Tryz.prog call L0 (.region 54 opsE false) S5 σD = some (.normal, S6, σ7) ∧ aX Tryz.prog call L0 (.region 55 opsF false) S6 σ7 = some (f1, S1, σ1) := by
     have hx4 := hx4.h;have e80 : ev S5 (.tmp 80) = .bool true := b80;rcases eN hx4 with ⟨S6, σ7, e5, e6⟩ | ⟨hne, e5⟩
     ·rw [cond_t e80] at e5; exact ⟨S6, σ7, e5, e6⟩
     ·rw [cond_t e80] at e5;exact absurd (bR e5).1 hne
    obtain ⟨S6, σE, e5, e6⟩ := hx5;obtain ⟨-, g, σ8, fv, zz, σ4, xx, s2, yy, hc2, RE, bk6⟩ := opsE_inv e5;rw [bk5 76 (by omega), b76] at hc2
    rw [b78, b79, bk5 5 (by omega), bk4 5 (by omega), bk 5 (by omega), g5] at RE
    obtain ⟨O2, hO2⟩ : ∃ O2, O2 = lD O1 w'.heap.size (.cells #[l0, l1, l2, l3, l4, l5, l6, l7, l8, l9, l10] 38 (0, 0)) := ⟨_, rfl⟩;have ZQ : Sim (wO w0 O2) Tryz.prog μ2 σD (w'.alloc (.cells #[l0, l1, l2, l3, l4, l5, l6, l7, l8, l9, l10] 38)) := by
     rw [hO2]; exact gW ZP (World.alloc_heap_new _ _) (jW ZD.h)
    have hOO2 : ∀ k o, O k = some o → O2 k = some o := fun k o hk => by
     rw [hO2]; unfold lD; rw [if_neg (by have := leO k o hk; omega)]; exact hOO1 k o hk
    have hO2X : O2 W.heap.size = some (.cells #[x0, x1, x2, x3, x4, x5, x6, x7, x8, x9, x10] 38 (0, 0)) := by
     rw [hO2]; unfold lD; rw [if_neg (by omega), hO1]; exact nN _ _ _
    have hO2Y : O2 w'.heap.size = some (.cells #[l0, l1, l2, l3, l4, l5, l6, l7, l8, l9, l10] 38 (0, 0)) := by rw [hO2]; exact nN _ _ _
    have ZR : Sim (wO w0 O2) Tryz.prog μ2 (up σD 9) (w'.alloc (.cells #[l0, l1, l2, l3, l4, l5, l6, l7, l8, l9, l10] 38)).drew := (aA0 ZQ).next (n := σD.next + 9) (Nat.le_add_right _ _)
    have rl2 : VRL μ2 [y0, y1, y2, y3, y4, y5, y6, y7, y8, y9, y10] [x0, x1, x2, x3, x4, x5, x6, x7, x8, x9, x10] := rl.mono EE2;obtain ⟨-, hC2⟩ := hcall.h (wO w0 O2) rfl _ #[.agg #[y0, y1, y2, y3, y4, y5, y6, y7, y8, y9, y10]] #[.agg #[x0, x1, x2, x3, x4, x5, x6, x7, x8, x9, x10]] _ _ _ μ2 _ hc2 ZR (.cons (.mkAgg rl2) .nil);refine r4_true (L := L) (bX := W.heap.size) (bY := w'.heap.size) (s := s') (R := fun w'' => ∃ μ5, Sim (wO w0 O) Tryz.prog μ5 σE w'' ∧ Ext σ.next μ μ5 ∧ σ.next ≤ σE.next) rfl rfl rfl rfl rfl rfl (aEQ (ZR.kept.oth _ _ hO2X).1) (aEQ (ZR.kept.oth _ _ hO2Y).1) (((callsIn_wide (n := 1)).2 hC2).mono ?_) ?_
    ·rintro e w4 ⟨μ4, g', rfl, rg, Z4, E4, n4⟩;obtain ⟨fv', hb1, rfv⟩ := oZ (μ := μ4) (P := Tryz.prog) (ρ := fun o => match o with | .tmp 25 => s | .tmp 26 => .agg ll.toArray | _ => g) (ρ' := fun o => match o with | .tmp 25 => s' | .tmp 26 => .agg #[l0, l1, l2, l3, l4, l5, l6, l7, l8, l9, l10] | _ => g')
      (o := mkO none (.build 137 #[(0, .tmp 25), (1, .tmp 26), (2, .tmp 28)]) 0) (v := fv) (fun x hx => by
       have : x = .tmp 25 ∨ x = .tmp 26 ∨ x = .tmp 28 := by simpa [Op.operands, mkO] using hx
       rcases this with rfl | rfl | rfl
       ·exact rs.mono E4
       ·exact (VR.mkAgg rll).mono E4
       ·exact rg) (by unfold dL; simp only [mkO, List.map_toArray, mpC, List.map_nil]; exact RE.bld)
     refine ⟨g', fv', rfl, aEQ (Z4.kept.oth _ _ hO2Y).1, fun ρ o ho h25 h26 h28 w => aF0 ho rfl h25 h26 h28 (fun w => cJ hb1 w) w, _, _, _, _, run_yield (Z4.kept.oth L _ (hOO2 L _ hL)).1 rfl, ?_⟩
     have kb : μ4 (σD.next + 2) = none := by
      rw [E4.2 (σD.next + 2) (by show σD.next + 2 < σD.next + 9; omega)]; exact ZD.h.dom _ (Nat.le_add_right _ _)
     have n4' : σD.next + 9 ≤ σ8.next := n4
     refine (round_ok (n := 1) (w0 := w0) (O := O2) Z4 kb (by omega) hts (hOO2 L _ hL) hL0 ((r5.mono EE2).mono E4) RE rfv).mono ?_
     rintro e w5 ⟨rfl, μ5, Z5, e5a, e5b, n5⟩;have EE4 : Ext σ.next μ μ4 := EE2.trans (E4.mono (n' := σD.next) (by show σD.next ≤ σD.next + 9; omega)) nn2
     exact ⟨rfl, μ5, lM Z5 hOO2, ⟨fun id q hq => e5a _ _ (EE4.1 id q hq), fun id hid => by rw [e5b id (by omega)]; exact EE4.2 id hid⟩, by omega⟩
    ·rintro ts' w5 hsz' lo h32 ⟨μ5, Z5, EE5, n5⟩;exact tail ts' _ μ5 σE ⟨rfl, hsz', lo 0 (by omega), lo 1 (by omega), lo 2 (by omega), lo 9 (by omega), lo 10 (by omega), lo 11 (by omega)⟩ h32 Z5 EE5 n5 ⟨S6, fun k hk => bk6 k (by omega), e6⟩
end Go.Rf
namespace Go.Rf
open Go.AI Go.Proofs Go.RowKit Go.Shelf
attribute [local go_sem] Oper.semAt_some
set_option maxHeartbeats 4000000 in
set_option maxRecDepth 100000 in
theorem aAf (W : World) (o : Option Addr) (n c : Nat) (u0 u1 u2 u3 u4 u5 u6 u7 u8 u9 u10 : Value) : Calls Tryz.prog 98 #[.slice o n c, .agg #[u0, u1, u2, u3, u4, u5, u6, u7, u8, u9, u10]] W fun e w' => e = .returned (.func (.func 127) #[] #[.pointer (some ⟨W.heap.size, 0, none⟩), .pointer (some ⟨W.heap.size + 1, 0, none⟩)]) ∧ w' = (W.alloc (.cells #[.slice o n c] 30)).alloc (.cells #[u0, u1, u2, u3, u4, u5, u6, u7, u8, u9, u10] 38) := by
 refine (callsIn_wide (n := 3)).1 ?_;refine callsIn_of_wp Tryz.func98 rfl trivial ?_ rfl;simp only [Tryz.ntmps98, List.size_toArray, lcS, lnN, Nat.reduceAdd, Nat.reduceSub, Array.replicate_succ, Array.replicate_zero, List.push_toArray, List.append_toArray, nlA, cnA]
 gi_wp2
 go_ret
 exact ⟨rfl, rfl⟩
set_option maxRecDepth 100000 in
theorem load_sl {b : Nat} {W : World} {o : Option Addr} {n c : Nat} {frz : Nat × Nat} (h : W.heap[b]? = some (.cells #[.slice o n c] 30 frz)) : (Instr.loadAt 30 (.pointer (some ⟨b, 0, none⟩))).run Tryz.prog W = .ok (.slice o n c) W := by
 have c0 : W.cell? ⟨b, 0, none⟩ = some (.slice o n c) := aP h rfl;clear h
 go_simp
set_option maxRecDepth 100000 in
theorem len_run {ρ : Operand → Value} {o : Oper} {x : Operand} {a : Option Addr} {n c : Nat} (ho : o.op = .call { callee := .builtin .len, args := #[x], argTypes := #[30] }) (hx : ρ x = .slice a n c) (w : World) : (execOp ρ o).run Tryz.prog w = .ok (.value (.int .i64 n)) w := by
 unfold execOp; rw [ho];simp only [List.map_toArray, mpC, List.map_nil]
 go_simp
set_option maxHeartbeats 1000000 in
set_option maxRecDepth 100000 in
theorem c127 {w0 : W0} {O : Nat → Option Obj} {call : FuncId → Array Value → St → Option (Value × St)} (hcall : ∀ w1 : W0, w1.toWorld = w0.toWorld → eC w1 Tryz.prog call)
    {L D bA bU L0 n c c' : Nat} {fn : FuncId} {ts : Array Value} {vo uv : Value} {sa sa' : Option Addr} {fl : Fl} {S S' : Slots} {σ σ' : St} {μ : Mp} {W : World} {u0 u1 u2 u3 u4 u5 u6 u7 u8 u9 u10 : Value} {frU frA : Nat × Nat}
    (hts : 68 ≤ ts.size) (hL : O L = some (.loop (yX fn ts D .ready none))) (hL0 : w0.heap.size ≤ L) (hU : O bU = some (.cells #[u0, u1, u2, u3, u4, u5, u6, u7, u8, u9, u10] 38 frU)) (hA : O bA = some (.cells #[.slice sa' n c'] 30 frA))
    (h : aX Tryz.prog call L0 (.block 5 (.loop cdL)) S σ = some (fl, S', σ'))
    (g70 : S.at 70 = uv) (r70 : VR μ uv (.agg #[u0, u1, u2, u3, u4, u5, u6, u7, u8, u9, u10])) (g71 : S.at 71 = .slice sa n c) (r71 : VR μ (.slice sa n c) (.slice sa' n c')) (g72 : S.at 72 = .int .i64 n) (g73 : S.at 73 = .int .i64 0) (g5 : S.at 5 = vo) (r5 : VR μ vo (ts.getD 5 undef))
    (Z : Sim (wO w0 O) Tryz.prog μ σ W) :
    CallsIn Fence.wide 2 Tryz.prog 127 #[.func (.yield L) #[] #[], .pointer (some ⟨bA, 0, none⟩), .pointer (some ⟨bU, 0, none⟩)] W fun e W' => (∃ v, e = .returned v) ∧ fl = .normal ∧ S'.at 5 = vo ∧ ∃ μ', Sim (wO w0 O) Tryz.prog μ' σ' W' ∧ Ext σ.next μ μ' ∧ σ.next ≤ σ'.next := by
 refine callsIn_of_wp Tryz.func127 rfl trivial ?_ rfl;simp only [Tryz.ntmps127, List.size_toArray, lcS, lnN, Nat.reduceAdd, Nat.reduceSub, Array.replicate_succ, Array.replicate_zero, List.push_toArray, List.append_toArray, nlA, cnA];generalize hts0 : (#[.func (.yield L) #[] #[], .pointer (some ⟨bA, 0, none⟩), .pointer (some ⟨bU, 0, none⟩), undef, undef, undef, undef, undef, undef, undef, undef, undef, undef, undef, undef, undef, undef, undef, undef, undef, undef, undef, undef, undef, undef, undef, undef, undef, undef, undef, undef, undef, undef, undef] : Array Value) = t0;have z0 : t0.size = 34 := by rw [← hts0]; rfl
 have q0 : t0.getD 0 undef = .func (.yield L) #[] #[] := by rw [← hts0]; rfl
 have q1 : t0.getD 1 undef = .pointer (some ⟨bA, 0, none⟩) := by rw [← hts0]; rfl
 have q2 : t0.getD 2 undef = .pointer (some ⟨bU, 0, none⟩) := by rw [← hts0]; rfl
 clear hts0;change Code.wpIn Fence.wide 2 Tryz.prog _ _ (fr t0) W;obtain ⟨fl0, S0, σ0, hit⟩ : ∃ fl0 S0 σ0, aDs (fun S σ => aX Tryz.prog call L0 cdL S σ) L0 S σ = some (fl0, S0, σ0) := by
  simp only [aX] at h;cases hx : aDs (fun S σ => aX Tryz.prog call L0 cdL S σ) L0 S σ with
  | none => rw [hx] at h; cases h
  | some r => exact ⟨r.1, r.2.1, r.2.2, rfl⟩
 have hend : fl0 = .exit 5 → fl = .normal ∧ S' = S0 ∧ σ' = σ0 := by
  rintro rfl;simp only [aX] at h;rw [hit] at h;simp only [cN, decide_true, cdt, ojE, pjE] at h;exact ⟨h.1.symm, h.2.1.symm, h.2.2.symm⟩
 refine wpIn_seq ?_;refine wpIn_region_lit ?_;refine lL rfl (iF rfl (by rw [cO, q1]; exact load_sl (Z.kept.oth _ _ hA).1)) ?_
 simp only [eI];refine lL rfl (len_run rfl (by rw [cO, bK (by omega)]) _) ?_
 simp only [eI];refine lL rfl (lV rfl _) ?_;simp only [eI];refine wpListIn_nil ?_;simp only [Exit.then];refine wpIn_block ?_;refine wpIn_loop_rounds L0 ?_;have e127 : (Code.roundsIn Fence.wide 2 Tryz.prog aEP) = (Code.roundsIn Fence.wide 2 Tryz.prog aEP) := rfl;refine loop_ok (bA := bA) hcall hts hL hL0 hU L0 0 S σ W μ _ hit g70 r70 g71 r71 g72 g73 g5 r5 Z ⟨rfl, by simp [fr, z0], ?_, ?_, ?_, ?_, ?_, ?_⟩ ?_
 ·rw [fG, aG (by omega), aG (by omega), aG (by omega)]; exact q0
 ·rw [fG, aG (by omega), aG (by omega), aG (by omega)]; exact q1
 ·rw [fG, aG (by omega), aG (by omega), aG (by omega)]; exact q2
 ·rw [fG, aG (by omega), aG (by omega), bK (by omega)]
 ·rw [fG, aG (by omega), bK (by simp [z0])]
 ·rw [fG, bK (by simp [z0])]; rfl
 ·intro W' μ' a' Z' E' hn hfl hs hd;obtain ⟨r1, rfl, rfl⟩ := hend hfl;simp only [Exit.inBlock, if_true];refine ⟨hd, _, results_none rfl _ _ _, ⟨_, rfl⟩, r1, hs, μ', Z', E', hn⟩
end Go.Rf
namespace Go.Rf
open Go.AI Go.Proofs Go.RowKit Go.Shelf
attribute [local go_sem] Oper.semAt_some
noncomputable def pA : Code := match tyB with | .seq a _ => a | _ => .skip
noncomputable def pB : Code := match tyB with | .seq _ (.seq a _) => a | _ => .skip
noncomputable def pC : Code := match tyB with | .seq _ (.seq _ (.seq a _)) => a | _ => .skip
noncomputable def pD : Code := match tyB with | .seq _ (.seq _ (.seq _ (.seq (.seq a _) _))) => a | _ => .skip
noncomputable def pE : Code := match tyB with | .seq _ (.seq _ (.seq _ (.seq _ (.seq a _)))) => a | _ => .skip
theorem tyB_eq : tyB = .seq pA (.seq pB (.seq pC (.seq (.seq pD (.block 3 (.rangeFunc (.tmp 61) #[62] parts.1 parts.2))) (.seq pE .ret)))) := by kernel_rfl
theorem ty_body : Tryz.f43.body = some tyB := by kernel_rfl
theorem swap_eq : swapC tyB = .seq pA (.seq pB (.seq pC (.seq cdA cdZ))) := by rw [tyB_eq]; rfl
theorem okA_ : cH Tryz.prog 68 pA = true := by kernel_rfl
theorem okB_ : cH Tryz.prog 68 pB = true := by kernel_rfl
theorem okC_ : cH Tryz.prog 68 pC = true := by kernel_rfl
theorem vr_slice {μ : Mp} {a : Option Addr} {n c : Nat} {u : Value} (h : VR μ (.slice a n c) u) : ∃ a' c', u = .slice a' n c' := by
 cases h with
 | same _ h => exact ⟨_, _, rfl⟩
 | slc _ _ _ _ cap p hp => exact ⟨_, _, rfl⟩
 | emp a s cap h => exact ⟨_, _, rfl⟩
theorem as_run {ρ : Operand → Value} {o : Oper} {x : Operand} (ho : o.op = .assign x) (w : World) : (execOp ρ o).run Tryz.prog w = .ok (.value (ρ x)) w := by
 unfold execOp; rw [ho]; rfl
theorem sw_enter {n : Nat} {P : Program} {ops : Array Oper} {Q : Exit → Act → World → Prop} {rest : List Oper} {o : Oper} {a : Act} {w w' : World} {f : FuncId} {args : Array Value} (hg : o.guard = none)
    (h : (execOp a.eval o).run P w = .ok (.enter f args) w') (k : CallsIn Fence.wide (n - 1) P f args w' fun e w'' => ∃ v, e = .returned v ∧ wpListIn Fence.wide n P ops Q rest (a.put o.dst v) w'') : wpListIn Fence.wide n P ops Q (o :: rest) a w := by
 refine wpListIn_plain hg fun K hK => ?_
 unfold Oper.wpIn;rw [Fence.wide_round, Oper.semAt_none];refine ⟨fun f _ => trivial, ?_⟩
 rw [h, Oper.uponIn_enter];refine ⟨(fun h => (by cases h)), k.mono ?_⟩
 rintro e w ⟨v, rfl, hk⟩;exact hK _ _ hk
theorem find_run : ∃ fn code, Tryz.prog.funcs[98]? = some fn ∧ fn.body = some code ∧ (fn.name == "runtime.NumGoroutine") = false := ⟨_, _, Tryz.func98, rfl, by kernel_rfl⟩
theorem pS : Tryz.prog.toTables.follows .mixedOrders = true := by kernel_rfl
set_option maxHeartbeats 2000000 in
set_option maxRecDepth 100000 in
theorem aDM (w0 : W0) : RepOK w0 Tryz.prog 43 tyF (swapC tyB) := by
 refine ⟨⟨_, _, Tryz.func43, rfl, by kernel_rfl⟩, ?_⟩
 intro call L0 hcall args args' σ σ' w μ r h Z hargs;refine (callsIn_wide (n := 3)).1 (callsIn_of_wp_marks Tryz.func43 ty_body trivial ?_ rfl);rw [Tryz.ntmps43, tyB_eq];rw [swap_eq] at h;have A0 : AR μ (jF args.toList 0 .nil) 68 { tmps := args' ++ Array.replicate (68 - args'.size) undef, defers := [] } := by
  have hsz := hargs.size;refine ⟨by simp; omega, rfl, fun i => ?_⟩
  rw [oV];simp only [Nat.zero_le, true_and, Nat.zero_add, Nat.sub_zero, Array.length_toList];rw [Array.getD_eq_getD_getElem?];by_cases hi : i < args.size
  ·rw [if_pos hi, Array.getElem?_append_left (by omega)]
   have h1 : args.toList[i]? = some args[i] := by simp [hi]
   obtain ⟨u, hu, hr⟩ := hargs.get h1;have hu' : args'[i]? = some u := by simpa using hu
   rw [h1, hu']; exact hr
  ·rw [if_neg hi, Array.getElem?_append_right (by omega)]
   have : ((Array.replicate (68 - args'.size) undef)[i - args'.size]?).getD undef = undef := by
    by_cases h2 : i - args'.size < 68 - args'.size
    ·simp [h2]
    ·simp [h2]
   rw [this];exact .undef
 generalize hR : (fun (e : Ending) (w' : World) => ∃ μ' r', e = .returned r' ∧ VR μ' r r' ∧ Sim w0 Tryz.prog μ' σ' w' ∧ Ext σ.next μ μ' ∧ σ.next ≤ σ'.next) = Rr
 have hres : tyF.results.toList = [.tmp 4] := by kernel_rfl
 have fin : ∀ fl S' σ1, dP Tryz.prog tyF (some (fl, S', σ1)) = some (r, σ') → Post w0 Tryz.prog μ σ.next 68 S' σ1 (bodyPostM Fence.wide 3 Tryz.prog Tryz.f43 Rr fl.out) := by
  intro fl S' σ1 he a' w' μ' A' Z' E' hn;have key : r = S'.at 4 ∧ σ' = σ1 ∧ ∀ k, fl ≠ .exit k := by
   cases fl with
   | exit k => simp [dP] at he
   | normal => simp only [dP, hres, cA, lP, omS, ojE, pjE, kJ] at he; exact ⟨he.1.symm, he.2.symm, fun k e => by cases e⟩
   | ret => simp only [dP, hres, cA, lP, omS, ojE, pjE, kJ] at he; exact ⟨he.1.symm, he.2.symm, fun k e => by cases e⟩
  obtain ⟨rfl, rfl, hne⟩ := key;have hm : LeavesInM Fence.wide 3 Tryz.prog Tryz.f43 a'.tmps Rr a'.defers .returning w' := by
   rw [A'.defers];exact ⟨_, results_tmp rfl _ _ _, by rw [← hR]; exact ⟨μ', _, rfl, A'.slot 4, Z', E', hn⟩⟩
  cases fl with
  | exit k => exact absurd rfl (hne k)
  | normal => exact hm
  | ret => exact hm
 have thenQ : ∀ (fl : Fl) (K : Act → World → Prop) (Q : Exit → Act → World → Prop), fl ≠ .normal → Exit.then K Q fl.out = Q fl.out := fun fl K Q h => by cases fl <;> first | exact absurd rfl h | rfl
 cases hx : aX Tryz.prog call L0 (.seq pA (.seq pB (.seq pC (.seq cdA cdZ)))) (jF args.toList 0 .nil) σ with
 | none => rw [hx] at h; simp [dP] at h
 | some r0 =>
 obtain ⟨fl, S', σ1⟩ := r0;rw [hx] at h;have hfin := fin fl S' σ1 h;have hc0 := hcall w0 rfl;refine wpIn_seq (wpIn_wide.2 ?_);rcases eN hx with ⟨S1, σa, e1, hx1⟩ | ⟨hne, e1⟩
 rotate_left
 ·exact jG hc0 pS L0 68 pA _ _ _ _ _ _ _ _ _ e1 okA_ A0 Z (by rw [thenQ _ _ _ hne]; exact hfin)
 refine jG hc0 pS L0 68 pA _ _ _ _ _ _ _ _ _ e1 okA_ A0 Z ?_;intro a1 w1 μ1 A1 Z1 E1 n1;refine wpIn_seq (wpIn_wide.2 ?_);have hfin1 := hfin.later E1 n1;rcases eN hx1 with ⟨S2, σb, e2, hx2⟩ | ⟨hne, e2⟩
 rotate_left
 ·exact jG hc0 pS L0 68 pB _ _ _ _ _ _ _ _ _ e2 okB_ A1 Z1 (by rw [thenQ _ _ _ hne]; exact hfin1)
 refine jG hc0 pS L0 68 pB _ _ _ _ _ _ _ _ _ e2 okB_ A1 Z1 ?_;intro a2 w2 μ2 A2 Z2 E2 n2;refine wpIn_seq (wpIn_wide.2 ?_);have hfin2 := hfin1.later E2 n2;rcases eN hx2 with ⟨S3, σc, e3, hx3⟩ | ⟨hne, e3⟩
 rotate_left
 ·exact jG hc0 pS L0 68 pC _ _ _ _ _ _ _ _ _ e3 okC_ A2 Z2 (by rw [thenQ _ _ _ hne]; exact hfin2)
 refine jG hc0 pS L0 68 pC _ _ _ _ _ _ _ _ _ e3 okC_ A2 Z2 ?_;intro a3 w3 μ3 A3 Z3 E3 n3;have EE3 : Ext σ.next μ μ3 := (E1.trans E2 n1).trans E3 (by omega)
 have NN3 : σ.next ≤ σc.next := by omega
 clear hx hx1 hx2 e1 e2 e3 A0 A1 A2 Z Z1 Z2 E1 E2 E3 hfin1 hfin2;obtain ⟨flx, S4, σ4, hcd, hrest⟩ : ∃ flx S4 σ4, aX Tryz.prog call L0 cdA S3 σc = some (flx, S4, σ4) ∧ (flx = .normal → aX Tryz.prog call L0 cdZ S4 σ4 = some (fl, S', σ1)) := by
  rcases eN hx3 with ⟨S4, σ4, e4, hx4⟩ | ⟨hne, e4⟩
  ·exact ⟨_, _, _, e4, fun _ => hx4⟩
  ·exact ⟨_, _, _, e4, fun h => absurd h hne⟩
 unfold cdA at hcd;rcases eN hcd with ⟨S5, σ5, e5, hlp⟩ | ⟨hne, e5⟩
 rotate_left
 ·exact absurd (bR e5).1 hne
 obtain ⟨-, rfl, u, sa, nn, cc, hlu, s0, g70, g71, g72, g73, g5⟩ := opsA_inv e5;obtain ⟨sl', c', hsl⟩ := vr_slice (by have := A3.slot 0; rw [s0] at this; exact this)
 have rsl : VR μ3 (.slice sa nn cc) (.slice sl' nn c') := by have := A3.slot 0; rw [s0, hsl] at this; exact this
 have Z4 : Sim w0 Tryz.prog μ3 (up σc 4) w3 := Z3.next (n := σc.next + 4) (Nat.le_add_right _ _)
 obtain ⟨lu, rfl, hlu11⟩ := aBD hlu;obtain ⟨u', hu1, ru⟩ := mH Z4 (A3.slot 3) hlu;obtain ⟨lu', rfl, rlu⟩ := vr_agg ru;obtain ⟨u0, u1, u2, u3, u4, u5, u6, u7, u8, u9, u10, rfl⟩ := aBE (l := lu') (by rw [← rlu.1]; exact hlu11)
 obtain ⟨ts, ds⟩ := a3;have hd3 : ds = [] := A3.defers;subst hd3;have hsz : 68 ≤ ts.size := A3.size;have hsl' : ts.getD 0 undef = .slice sl' nn c' := hsl;have q5 : VR μ3 (S3.at 5) (ts.getD 5 undef) := A3.slot 5;change Code.wpIn Fence.wide 3 Tryz.prog _ _ (fr ts) w3;refine wpIn_seq (wpIn_seq ?_)
 conv => arg 4; unfold pD tyB; dsimp only [Tryz.f43, Option.getD]
 refine wpIn_region_lit ?_;refine lL rfl (lV rfl _) ?_;rw [cO, hsl'];simp only [eI];refine lL rfl (iF rfl (by rw [cO, aG (by omega)]; exact hu1)) ?_
 simp only [eI];refine sw_enter rfl (oY rfl rfl rfl find_run) ?_;simp only [List.map_toArray, mpC, List.map_nil];rw [cO, cO, aG (by omega), bK (by omega), bK (by simp; omega)]
 refine ((callsIn_wide (n := 2)).2 (aAf w3 sl' nn c' u0 u1 u2 u3 u4 u5 u6 u7 u8 u9 u10)).mono ?_;rintro e w4 ⟨rfl, rfl⟩;refine ⟨_, rfl, ?_⟩;simp only [eI];refine wpListIn_nil ?_;simp only [Exit.then];generalize hts : ((ts.setIfInBounds 59 (.slice sl' nn c')).setIfInBounds 60 (.agg #[u0, u1, u2, u3, u4, u5, u6, u7, u8, u9, u10])).setIfInBounds 61 (.func (.func 127) #[] #[.pointer (some ⟨w3.heap.size, 0, none⟩), .pointer (some ⟨w3.heap.size + 1, 0, none⟩)]) = ts';have hsz' : 68 ≤ ts'.size := by rw [← hts]; simp; omega
 have h61 : ts'.getD 61 undef = .func (.func 127) #[] #[.pointer (some ⟨w3.heap.size, 0, none⟩), .pointer (some ⟨w3.heap.size + 1, 0, none⟩)] := by rw [← hts, bK (by simp; omega)]
 have h5 : ts'.getD 5 undef = ts.getD 5 undef := by rw [← hts, aG (by omega), aG (by omega), aG (by omega)]
 obtain ⟨oA, hoA⟩ : ∃ o, o = Obj.cells #[Value.slice sl' nn c'] 30 (0, 0) := ⟨_, rfl⟩;obtain ⟨oU, hoU⟩ : ∃ o, o = Obj.cells #[u0, u1, u2, u3, u4, u5, u6, u7, u8, u9, u10] 38 (0, 0) := ⟨_, rfl⟩;have hnA : ∀ C t fr, oA = .cells C t fr → fr = (0, 0) := fun C t fr h => by rw [hoA] at h; cases h; rfl
 have hnU : ∀ C t fr, oU = .cells C t fr → fr = (0, 0) := fun C t fr h => by rw [hoU] at h; cases h; rfl
 rw [show (Obj.cells #[Value.slice sl' nn c'] 30) = oA from hoA.symm, show (Obj.cells #[u0, u1, u2, u3, u4, u5, u6, u7, u8, u9, u10] 38) = oU from hoU.symm]
 obtain ⟨wA, hwA⟩ : ∃ x, x = w3.alloc oA := ⟨_, rfl⟩;obtain ⟨wU, hwU⟩ : ∃ x, x = wA.alloc oU := ⟨_, rfl⟩;rw [← hwA, ← hwU];have sA : wA.heap.size = w3.heap.size + 1 := by rw [hwA]; exact World.size_alloc _ _
 have sU : wU.heap.size = w3.heap.size + 2 := by rw [hwU, World.size_alloc, sA]
 have Z5 : Sim (wO w0 (lD (lD w0.O w3.heap.size oA) wA.heap.size oU)) Tryz.prog μ3 (up σc 4) wU := by
  have ZA : Sim (wO w0 (lD w0.O w3.heap.size oA)) Tryz.prog μ3 (up σc 4) wA := by
   rw [hwA]; exact gW (O := w0.O) (jP Z4 hnA) (World.alloc_heap_new _ _) (jW Z4)
  rw [hwU]; exact gW (jP ZA hnU) (World.alloc_heap_new _ _) (jW ZA)
 refine wpIn_block ?_;refine wpIn_rangeFunc ?_;intro fn _;obtain ⟨wD, hwD⟩ : ∃ x, x = wU.alloc (.deferred (some [])) := ⟨_, rfl⟩;obtain ⟨wL, hwL⟩ : ∃ x, x = wD.alloc (.loop (yX fn ts' wU.heap.size .ready none)) := ⟨_, rfl⟩;have sD : wD.heap.size = w3.heap.size + 3 := by rw [hwD, World.size_alloc, sU]
 obtain ⟨O', hO'⟩ : ∃ O', O' = lD (lD (lD (lD w0.O w3.heap.size oA) wA.heap.size oU) wU.heap.size (.deferred (some []))) wD.heap.size (.loop (yX fn ts' wU.heap.size .ready none)) := ⟨_, rfl⟩;have Z6 : Sim (wO w0 O') Tryz.prog μ3 (up σc 4) wL := by
  have ZD : Sim (wO w0 (lD (lD (lD w0.O w3.heap.size oA) wA.heap.size oU) wU.heap.size (.deferred (some [])))) Tryz.prog μ3 (up σc 4) wD := by
   rw [hwD]; exact gW (jP Z5 (fun C t fr h => by cases h)) (World.alloc_heap_new _ _) (jW Z5)
  rw [hO', hwL]; exact gW (jP ZD (fun C t fr h => by cases h)) (World.alloc_heap_new _ _) (jW ZD)
 have oL : O' wD.heap.size = some (.loop (yX fn ts' wU.heap.size .ready none)) := by rw [hO']; exact nN _ _ _
 have oD : O' wU.heap.size = some (.deferred (some [])) := by rw [hO']; unfold lD; rw [if_neg (by omega), if_pos rfl]
 have oU2 : O' wA.heap.size = some oU := by rw [hO']; unfold lD; rw [if_neg (by omega), if_neg (by omega), if_pos rfl]
 have oA2 : O' w3.heap.size = some oA := by rw [hO']; unfold lD; rw [if_neg (by omega), if_neg (by omega), if_neg (by omega), if_pos rfl]
 have leW : w0.heap.size ≤ w3.heap.size := Z4.kept.size;have o0 : ∀ k o, w0.O k = some o → O' k = some o := fun k o hk => by
  have := (Array.getElem?_eq_some_iff.1 (Z4.kept.oth k o hk).1).1;rw [hO']; unfold lD; rw [if_neg (by omega), if_neg (by omega), if_neg (by omega), if_neg (by omega)]; exact hk
 refine ⟨wD.heap.size, [{ target := .collected wU.heap.size, args := #[] }], wL, { target := .fn (.func 127) #[.pointer (some ⟨w3.heap.size, 0, none⟩), .pointer (some ⟨w3.heap.size + 1, 0, none⟩)], args := #[.func (.yield wD.heap.size) #[] #[]] }, wL, 127,
  #[.func (.yield wD.heap.size) #[] #[]] ++ #[.pointer (some ⟨w3.heap.size, 0, none⟩), .pointer (some ⟨w3.heap.size + 1, 0, none⟩)], wL, ?_, ?_, ?_, ?_, ?_, ?_⟩
 ·rw [show wD.heap.size = wU.heap.size + 1 by omega, hwL, hwD]
  exact run_enterLoop_outer (P := Tryz.prog) (w := wU) fn ts' #[62] parts.1 parts.2
 ·simp only [resolve];rw [cO, h61];simp [go_sem]
 ·intro f' hf'; trivial
 ·have eg := enters_of Tryz.func127 (by kernel_rfl) rfl
  simp [invoke, go_sem, eg]
 ·intro h; cases h
 ·rw [← sA];have eargs : (#[.func (.yield wD.heap.size) #[] #[]] ++ #[.pointer (some ⟨w3.heap.size, 0, none⟩), .pointer (some ⟨wA.heap.size, 0, none⟩)] : Array Value) = #[.func (.yield wD.heap.size) #[] #[], .pointer (some ⟨w3.heap.size, 0, none⟩), .pointer (some ⟨wA.heap.size, 0, none⟩)] := rfl;rw [eargs];have r5 : VR μ3 (S3.at 5) (ts'.getD 5 undef) := by rw [h5]; exact q5
  refine (c127 (w0 := w0) (O := O') (D := wU.heap.size) (fn := fn) hcall hsz' oL (by omega) (by rw [← hoU]; exact oU2) (by rw [← hoA]; exact oA2) hlp g70 ru g71 rsl g72 g73 g5 r5 Z6).mono ?_
  rintro e W7 ⟨⟨v, rfl⟩, hfl, hs5, μ7, Z7, E7, n7⟩;obtain ⟨rfl, rfl, x, hlx, hx4⟩ := cdZ_inv (hrest hfl);have hkey : r = x ∧ σ' = up σ4 2 := by
   simp only [dP, hres, cA, lP, omS, ojE, pjE, kJ, hx4] at h;exact ⟨h.1.symm, h.2.symm⟩
  obtain ⟨rfl, rfl⟩ := hkey;have leL : w0.heap.size ≤ wD.heap.size := by omega
  refine ⟨none, _, run_endLoop (Z7.kept.oth _ _ oL).1 (by intro h; cases h), ?_⟩
  have Z8 := oN Z7 oL leL (o' := .loop { yX fn ts' wU.heap.size .ready none with state := .exhausted }) (fun C t fr h => by cases h)
  generalize W7.putObj wD.heap.size (.loop { yX fn ts' wU.heap.size .ready none with state := .exhausted }) = w8 at *;have oD8 : lD (aFZ O' wD.heap.size) wD.heap.size (.loop { yX fn ts' wU.heap.size .ready none with state := .exhausted }) wU.heap.size = some (.deferred (some [])) := by
   unfold lD aFZ; rw [if_neg (by omega), if_neg (by omega)]; exact oD
  have Z9 := oN Z8 oD8 (by omega) (o' := .deferred none) (fun C t fr h => by cases h)
  have hD8 := (Z8.kept.oth _ _ oD8).1;show Exit.inBlock 3 _ .normal _ _;simp only [Exit.inBlock, Exit.then];have r7 : VR μ7 (S4.at 5) (ts'.getD 5 undef) := by rw [hs5]; exact r5.mono E7
  obtain ⟨x', hx1, rx⟩ := mH (Z8.next (n := σ4.next + 2) (Nat.le_add_right _ _)) r7 hlx
  refine wpIn_seq ?_
  conv => arg 4; unfold pE tyB; dsimp only [Tryz.f43, Option.getD]
  refine wpIn_region_lit ?_;refine lL rfl (iF rfl hx1) ?_;refine lL rfl (as_run rfl _) ?_;refine wpListIn_nil ?_;simp only [Exit.then];refine wpIn_ret ?_;refine ⟨by simp, .inl ⟨wU.heap.size, _, rfl, run_takeDeferred hD8, ?_⟩⟩
  refine ⟨_, results_tmp rfl _ _ _, ?_⟩;rw [← hR];have hv : (((ts'.setIfInBounds 67 x').setIfInBounds 4 ((ts'.setIfInBounds 67 x').getD 67 undef)).getD 4 undef) = x' := by rw [bK (by simp; omega), bK (by omega)]
  refine ⟨μ7, x', ?_, rx, ?_, EE3.trans (E7.mono (n' := σc.next) (by show σc.next ≤ σc.next + 4; omega)) NN3, ?_⟩
  ·exact congrArg Ending.returned hv
  ·have Z10 := lM (O' := w0.O) Z9 (fun k o hk => by
    have hb := (Array.getElem?_eq_some_iff.1 (Z4.kept.oth k o hk).1).1;simp only [lD, aFZ]; rw [if_neg (by omega), if_neg (by omega), if_neg (by omega), if_neg (by omega)]; exact o0 k o hk)
   exact Sim.next (n := σ4.next + 2) Z10 (Nat.le_add_right _ _)
  ·have : σc.next + 4 ≤ σ4.next := n7
   show σ.next ≤ σ4.next + 2; omega
end Go.Rf
namespace Go.Rf
open Go.AI Go.Proofs
def clO1 : Array Oper := #[mkO (some 3) (.call { callee := .builtin .len, args := #[.tmp 0], argTypes := #[46] }) 3,
 mkO (some 4) (.binOp .eql 3 (.tmp 3) (.const (.int .i64 0)) 3) 4]
def clO2 : Array Oper := #[mkO (some 5) (.buildSlice 46 0 #[]) 46, mkO (some 2) (.slice 46 (.tmp 0) (some (.const (.int .i64 0))) (some (.const (.int .i64 0))) (some (.const (.int .i64 0)))) 46,
 mkO (some 6) (.move (.tmp 0)) 46, mkO (some 6) (.move (.tmp 0)) 46]
def vA : Code → Code
 | .seq a (.seq (.seq _ (.cond c _ s)) r) => .seq a (.seq (.seq (.region 1 clO1 false) (.cond c (.seq (.region 2 clO2 false) .ret) s)) r)
 | c => c
noncomputable def clB : Code := Tryz.f103.body.getD .skip
noncomputable def clF : Func := { Tryz.f103 with body := some (vA clB) }
theorem cl_get : Tryz.prog.funcs[103]? = some Tryz.f103 := by kernel_rfl
theorem aFR : Tryz.f103.body = some clB := rfl
theorem cl_ok : jB Tryz.prog Tryz.f103 = true := by kernel_rfl
section
variable (call : FuncId → Array Value → St → Option (Value × St)) (L : Nat) (σ : St)
def clS : St := ({ σ with next := σ.next + 7 } : St).put (σ.next + 3) (.cells [] (bG 11))
noncomputable def clR : Code := match clB with | .seq _ (.seq _ r) => r | _ => .skip
noncomputable def clO3 : Array Oper := match clR with | .seq (.region _ o _) _ => o | _ => #[]
noncomputable def clo (k : Nat) : Oper := clO3.toList.getD k (mkO none (.move (.tmp 0)) 0)
theorem clR_eq : clR = .seq (.region 3 clO3 false) .ret := by kernel_rfl
theorem clO3_eq : clO3.toList = [clo 0, clo 1, clo 2, clo 3] := by kernel_rfl
theorem aFS : clO3.size = 4 := by kernel_rfl
theorem aT {P : Program} {ops : Array Oper} {base i : Nat} {o : Oper} {rest : List Oper} {S : Slots} {σ σ1 : St} {v : Value} (hg : o.guard = none) (h : aop P call base i o S σ = some (v, σ1)) :
    cY P call ops base (o :: rest) i S σ = cY P call ops base rest (i + 1) (S.store o.dst v) σ1 := by
 rw [cY, wanted, hg]; simp only [cdt, h]
theorem nU {P : Program} {ops : Array Oper} {base i : Nat} {o : Oper} {rest : List Oper} {S : Slots} {σ : St} (hg : o.guard = none) (h : aop P call base i o S σ = none) :
    cY P call ops base (o :: rest) i S σ = none := by
 rw [cY, wanted, hg]; simp only [cdt, h]
end
end Go.Rf
namespace Go.Rf
open Go.AI Go.Proofs
section
variable (call : FuncId → Array Value → St → Option (Value × St)) (L : Nat) (σ : St)
theorem regN {P : Program} {id : Nat} {ops : Array Oper} {S S' : Slots} {σ σ' : St} (h : cY P call ops σ.next ops.toList 0 S { σ with next := σ.next + ops.size } = some (S', σ')) : aX P call L (.region id ops false) S σ = some (.normal, S', σ') := by
 rw [aX, dZ, cdf, h]; rfl
theorem seqN {P : Program} {a b : Code} {S S1 : Slots} {σ σ1 : St} (h : aX P call L a S σ = some (.normal, S1, σ1)) : aX P call L (.seq a b) S σ = aX P call L b S1 σ1 := by
 rw [aX, h]
theorem seqR {P : Program} {a b : Code} {S S1 : Slots} {σ σ1 : St} (h : aX P call L a S σ = some (.ret, S1, σ1)) : aX P call L (.seq a b) S σ = some (.ret, S1, σ1) := by
 rw [aX, h]
theorem condT {P : Program} {x : Operand} {a b : Code} {S : Slots} {σ : St} (h : ev S x = .bool true) : aX P call L (.cond x a b) S σ = aX P call L a S σ := by
 rw [aX, h]
theorem condF {P : Program} {x : Operand} {a b : Code} {S : Slots} {σ : St} (h : ev S x = .bool false) : aX P call L (.cond x a b) S σ = aX P call L b S σ := by
 rw [aX, h]
theorem endR {S : Slots} {σ : St} : dP Tryz.prog Tryz.f103 (some (.ret, S, σ)) = some (S.at 2, σ) := by kernel_rfl
theorem endC {S : Slots} {σ : St} : dP Tryz.prog clF (some (.ret, S, σ)) = some (S.at 2, σ) := by kernel_rfl
noncomputable def kR (n : Nat) : Code := match clB, n with
 | .seq a _, 0 => a
 | .seq _ (.seq (.seq b _) _), 1 => b
 | .seq _ (.seq (.seq _ (.cond _ (.seq c _) _)) _), _ => c
 | _, _ => .skip
noncomputable def kO (n : Nat) : Array Oper := match kR n with | .region _ o _ => o | _ => #[]
noncomputable def ko (n k : Nat) : Oper := (kO n).toList.getD k (mkO none (.move (.tmp 0)) 0)
theorem clB_eq : clB = .seq (.region 0 (kO 0) false) (.seq (.seq (.region 1 (kO 1) false) (.cond (.tmp 4) (.seq (.region 2 (kO 2) false) .ret) .skip)) clR) := by kernel_rfl
theorem clC_eq : vA clB = .seq (.region 0 (kO 0) false) (.seq (.seq (.region 1 clO1 false) (.cond (.tmp 4) (.seq (.region 2 clO2 false) .ret) .skip)) clR) := by kernel_rfl
theorem l0 : (kO 0).toList = [ko 0 0] := by kernel_rfl
theorem l1 : (kO 1).toList = [ko 1 0, ko 1 1] := by kernel_rfl
theorem l2 : (kO 2).toList = [ko 2 0] := by kernel_rfl
theorem n0 : (kO 0).size = 1 := by kernel_rfl
theorem n1 : (kO 1).size = 2 := by kernel_rfl
theorem n2 : (kO 2).size = 1 := by kernel_rfl
theorem g00 : (ko 0 0).guard = none := by kernel_rfl
theorem g10 : (ko 1 0).guard = none := by kernel_rfl
theorem g11 : (ko 1 1).guard = none := by kernel_rfl
theorem g20 : (ko 2 0).guard = none := by kernel_rfl
theorem d00 : (ko 0 0).dst = some 2 := by kernel_rfl
theorem d10 : (ko 1 0).dst = some 3 := by kernel_rfl
theorem d11 : (ko 1 1).dst = some 4 := by kernel_rfl
theorem d20 : (ko 2 0).dst = some 2 := by kernel_rfl
def one3 (w : Value) : Slots := Slots.store .nil (some 3) w
def one0 (w : Value) : Slots := Slots.store .nil (some 0) w
theorem a00 {S : Slots} {σ : St} {b i : Nat} : aop Tryz.prog call b i (ko 0 0) S σ = some (.slice none 0 0, σ) := by kernel_rfl
theorem a20 {S : Slots} {σ : St} {b i : Nat} : aop Tryz.prog call b i (ko 2 0) S σ = some (.slice none 0 0, σ) := by kernel_rfl
theorem a10 {S : Slots} {σ : St} {b i : Nat} : aop Tryz.prog call b i (ko 1 0) S σ = some (S.at 0, σ) := by kernel_rfl
theorem a11 {S : Slots} {σ : St} {b i : Nat} : aop Tryz.prog call b i (ko 1 1) S σ = aop Tryz.prog call b i (ko 1 1) (one3 (S.at 3)) σ := by kernel_rfl
theorem a11n {σ : St} {b i : Nat} : aop Tryz.prog call b i (ko 1 1) (one3 (.slice none 0 0)) σ = some (.bool true, σ) := by kernel_rfl
theorem a11s {σ : St} {b i n c : Nat} {a : Addr} : aop Tryz.prog call b i (ko 1 1) (one3 (.slice (some a) n c)) σ = some (.bool false, σ) := by kernel_rfl
theorem head {S : Slots} {u : Value} (hu : S.at 0 = u) {q : Bool} (hq : ∀ (σ : St) b i, aop Tryz.prog call b i (ko 1 1) (one3 u) σ = some (.bool q, σ)) {fl : Fl} {r : Option (Fl × Slots × St)}
    (h : (bif q then aX Tryz.prog call L (.seq (.seq (.region 2 (kO 2) false) .ret) clR) (((S.store (some 2) (.slice none 0 0)).store (some 3) u).store (some 4) (.bool q)) { σ with next := σ.next + 3 }
      else aX Tryz.prog call L clR (((S.store (some 2) (.slice none 0 0)).store (some 3) u).store (some 4) (.bool q)) { σ with next := σ.next + 3 }) = r) :
    aX Tryz.prog call L clB S σ = r := by
 have h0 : aX Tryz.prog call L (.region 0 (kO 0) false) S σ = some (.normal, S.store (some 2) (.slice none 0 0), { σ with next := σ.next + 1 }) := by
  refine regN call L ?_;rw [l0, n0, aT call g00 (a00 call), d00]; rfl
 have h1 : aX Tryz.prog call L (.region 1 (kO 1) false) (S.store (some 2) (.slice none 0 0)) { σ with next := σ.next + 1 } = some (.normal, ((S.store (some 2) (.slice none 0 0)).store (some 3) u).store (some 4) (.bool q), { σ with next := σ.next + 3 }) := by
  refine regN call L ?_;have e0 : (S.store (some 2) (.slice none 0 0)).at 0 = u := by rw [Go.Rf.at_store, if_neg (by decide)]; exact hu
  have e3 : ((S.store (some 2) (.slice none 0 0)).store (some 3) u).at 3 = u := by rw [Go.Rf.at_store, if_pos rfl]
  rw [l1, n1, aT call g10 (a10 call), e0, d10, aT call g11 (by rw [a11, e3]; exact hq _ _ _), d11]; rfl
 have e4 : ev (((S.store (some 2) (.slice none 0 0)).store (some 3) u).store (some 4) (.bool q)) (.tmp 4) = .bool q := by
  show Slots.at _ 4 = _; rw [Go.Rf.at_store, if_pos rfl]
 rw [clB_eq, seqN call L h0];subst h;cases q with
 | true =>
  rw [cdt, aX, seqN call L h1, condT call L e4]
  conv => rhs; rw [aX]
 | false =>
  rw [cdf, aX, seqN call L h1, condF call L e4, aX]
end
end Go.Rf
namespace Go.Rf
open Go.AI Go.Proofs
section
variable (call : FuncId → Array Value → St → Option (Value × St)) (L : Nat) (σ : St)
def S56 (x u : Value) : Slots := Slots.store (Slots.store .nil (some 5) x) (some 6) u
theorem a2 {S : Slots} {σ : St} {b i : Nat} : aop Tryz.prog call b i (clo 2) S σ = aop Tryz.prog call b i (clo 2) (S56 (S.at 5) (S.at 6)) σ := by kernel_rfl
theorem a0 {S : Slots} : aop Tryz.prog call (σ.next + 3) 0 (clo 0) S { σ with next := σ.next + 7 } = some (.slice (some ⟨σ.next + 3, 0, none⟩) 0 0, clS σ) := by kernel_rfl
theorem a1 {S : Slots} {σ : St} {b i : Nat} : aop Tryz.prog call b i (clo 1) S σ = some (S.at 0, σ) := by kernel_rfl
theorem a3 {S : Slots} {σ : St} {b i : Nat} : aop Tryz.prog call b i (clo 3) S σ = some (S.at 7, σ) := by kernel_rfl
theorem g0 : (clo 0).guard = none := by kernel_rfl
theorem g1 : (clo 1).guard = none := by kernel_rfl
theorem g2 : (clo 2).guard = none := by kernel_rfl
theorem g3 : (clo 3).guard = none := by kernel_rfl
theorem e0 : (clo 0).dst = some 5 := by kernel_rfl
theorem e1 : (clo 1).dst = some 6 := by kernel_rfl
theorem e2 : (clo 2).dst = some 7 := by kernel_rfl
theorem e3 : (clo 3).dst = some 2 := by kernel_rfl
theorem R_eqS {S : Slots} {u : Value} (hu : S.at 0 = u) {fn : Func} (hfn : ∀ (S : Slots) (σ : St), dP Tryz.prog fn (some (.ret, S, σ)) = some (S.at 2, σ)) (hno : dP Tryz.prog fn none = none) :
    dP Tryz.prog fn (aX Tryz.prog call L clR S { σ with next := σ.next + 3 }) = aop Tryz.prog call (σ.next + 3) 2 (clo 2) (S56 (.slice (some ⟨σ.next + 3, 0, none⟩) 0 0) u) (clS σ) := by
 have hr : ∀ r, cY Tryz.prog call clO3 (σ.next + 3) [clo 2, clo 3] 2 ((S.store (some 5) (.slice (some ⟨σ.next + 3, 0, none⟩) 0 0)).store (some 6) u) (clS σ) = r → aX Tryz.prog call L (.region 3 clO3 false) S { σ with next := σ.next + 3 } = r.map fun x => (.normal, x.1, x.2) := by
  intro r hr;have e : dZ Tryz.prog call clO3 false S { σ with next := σ.next + 3 } = r := by
   rw [dZ, cdf, clO3_eq, aFS];refine (aT call g0 (a0 call σ)).trans ?_;rw [e0];refine (aT call g1 (a1 call)).trans ?_;rw [e1, Go.Rf.at_store, if_neg (by decide), hu]
   exact hr
  rw [aX, e]
 have h56 : aop Tryz.prog call (σ.next + 3) 2 (clo 2) ((S.store (some 5) (.slice (some ⟨σ.next + 3, 0, none⟩) 0 0)).store (some 6) u) (clS σ) = aop Tryz.prog call (σ.next + 3) 2 (clo 2) (S56 (.slice (some ⟨σ.next + 3, 0, none⟩) 0 0) u) (clS σ) := by
  rw [a2, Go.Rf.at_store, if_neg (by decide), Go.Rf.at_store, if_pos rfl, Go.Rf.at_store, if_pos rfl]
 rw [clR_eq];cases hX : aop Tryz.prog call (σ.next + 3) 2 (clo 2) (S56 (.slice (some ⟨σ.next + 3, 0, none⟩) 0 0) u) (clS σ) with
 | none =>
  have := hr none (nU call g2 (h56.trans hX));rw [aX, this]; exact hno
 | some x =>
  obtain ⟨v, σ1⟩ := x;have h3 := (aT call (ops := clO3) (rest := [clo 3]) g2 (h56.trans hX));rw [e2] at h3;have := hr _ (h3.trans (aT call g3 (a3 call)));rw [cY, e3, Go.Rf.at_store, if_pos rfl] at this;rw [aX, this, omS];simp only [aX];rw [hfn, Go.Rf.at_store, if_pos rfl]
theorem fnP (S : Slots) (σ : St) : dP Tryz.prog Tryz.f103 (some (.ret, S, σ)) = some (S.at 2, σ) := endR
theorem fnC (S : Slots) (σ : St) : dP Tryz.prog clF (some (.ret, S, σ)) = some (S.at 2, σ) := endC
theorem p_nilS {S : Slots} (hu : S.at 0 = .slice none 0 0) : dP Tryz.prog Tryz.f103 (aX Tryz.prog call L clB S σ) = some (.slice none 0 0, { σ with next := σ.next + 4 }) := by
 rw [head call L σ (fl := .normal) hu (q := true) (fun _ _ _ => a11n call) rfl, cdt]
 have h2 : ∀ T : Slots, aX Tryz.prog call L (.region 2 (kO 2) false) T { σ with next := σ.next + 3 } = some (.normal, T.store (some 2) (.slice none 0 0), { σ with next := σ.next + 4 }) := fun T => regN call L (by
  rw [l2, n2, aT call g20 (a20 call), d20]; rfl)
 have h3 : ∀ T : Slots, aX Tryz.prog call L (.seq (.region 2 (kO 2) false) .ret) T { σ with next := σ.next + 3 } = some (.ret, T.store (some 2) (.slice none 0 0), { σ with next := σ.next + 4 }) := fun T => (seqN call L (h2 T)).trans (by rw [aX])
 rw [seqR call L (h3 _), fnP, Go.Rf.at_store, if_pos rfl]
theorem at0 {S : Slots} {u x : Value} {q : Bool} (hu : S.at 0 = u) : (((S.store (some 2) (.slice none 0 0)).store (some 3) x).store (some 4) (.bool q)).at 0 = u := by
 rw [Go.Rf.at_store, if_neg (by decide), Go.Rf.at_store, if_neg (by decide), Go.Rf.at_store, if_neg (by decide)]; exact hu
theorem aEx {S : Slots} {a : Addr} {n c : Nat} (hu : S.at 0 = .slice (some a) n c) : dP Tryz.prog Tryz.f103 (aX Tryz.prog call L clB S σ) =
    aop Tryz.prog call (σ.next + 3) 2 (clo 2) (S56 (.slice (some ⟨σ.next + 3, 0, none⟩) 0 0) (.slice (some a) n c)) (clS σ) := by
 rw [head call L σ (fl := .normal) hu (q := false) (fun _ _ _ => a11s call) rfl, cdf]
 exact R_eqS call L σ (at0 hu) fnP rfl
theorem p_empS {S : Slots} (hu : S.at 0 = wS) : dP Tryz.prog Tryz.f103 (aX Tryz.prog call L clB S σ) = some (.slice (some ⟨σ.next + 3, 0, none⟩) 0 0, clS σ) :=
 (aEx call L σ hu).trans (by kernel_rfl)
end
end Go.Rf
namespace Go.Rf
open Go.AI Go.Proofs
section
variable (call : FuncId → Array Value → St → Option (Value × St)) (L : Nat) (σ : St)
def k1 (j : Nat) : Oper := clO1.toList.getD j (mkO none (.move (.tmp 0)) 0)
def k2 (j : Nat) : Oper := clO2.toList.getD j (mkO none (.move (.tmp 0)) 0)
theorem b10 {S : Slots} {σ : St} {b i : Nat} : aop Tryz.prog call b i (k1 0) S σ = aop Tryz.prog call b i (k1 0) (one0 (S.at 0)) σ := by kernel_rfl
theorem b10s {σ : St} {b i n c : Nat} {a : Option Addr} : aop Tryz.prog call b i (k1 0) (one0 (.slice a n c)) σ = some (goInt (n : Int), σ) := by kernel_rfl
theorem b11 {S : Slots} {σ : St} {b i : Nat} : aop Tryz.prog call b i (k1 1) S σ = aop Tryz.prog call b i (k1 1) (one3 (S.at 3)) σ := by kernel_rfl
theorem b11t {σ : St} {b i : Nat} : aop Tryz.prog call b i (k1 1) (one3 (goInt ((0 : Nat) : Int))) σ = some (.bool true, σ) := by kernel_rfl
theorem b11f {σ : St} {b i n : Nat} : aop Tryz.prog call b i (k1 1) (one3 (goInt ((n + 1 : Nat) : Int))) σ = some (.bool false, σ) := by kernel_rfl
theorem b20 {S : Slots} : aop Tryz.prog call (σ.next + 3) 0 (k2 0) S { σ with next := σ.next + 7 } = some (.slice (some ⟨σ.next + 3, 0, none⟩) 0 0, clS σ) := by kernel_rfl
theorem b21 {S : Slots} {σ : St} {b i : Nat} : aop Tryz.prog call b i (k2 1) S σ = aop Tryz.prog call b i (k2 1) (one0 (S.at 0)) σ := by kernel_rfl
theorem b21z {σ : St} {b i c : Nat} {a : Option Addr} : aop Tryz.prog call b i (k2 1) (one0 (.slice a 0 c)) σ = some (pP a, σ) := by kernel_rfl
theorem b22 {S : Slots} {σ : St} {b i : Nat} : aop Tryz.prog call b i (k2 2) S σ = some (S.at 0, σ) := by kernel_rfl
theorem b23 {S : Slots} {σ : St} {b i : Nat} : aop Tryz.prog call b i (k2 3) S σ = some (S.at 0, σ) := by kernel_rfl
theorem headC {S : Slots} {u w : Value} (hu : S.at 0 = u) (hl : ∀ (σ : St) b i, aop Tryz.prog call b i (k1 0) (one0 u) σ = some (w, σ)) {q : Bool} (hq : ∀ (σ : St) b i, aop Tryz.prog call b i (k1 1) (one3 w) σ = some (.bool q, σ)) :
    aX Tryz.prog call L (vA clB) S σ = (bif q then aX Tryz.prog call L (.seq (.seq (.region 2 clO2 false) .ret) clR) (((S.store (some 2) (.slice none 0 0)).store (some 3) w).store (some 4) (.bool q)) { σ with next := σ.next + 3 }
      else aX Tryz.prog call L clR (((S.store (some 2) (.slice none 0 0)).store (some 3) w).store (some 4) (.bool q)) { σ with next := σ.next + 3 }) := by
 have h0 : aX Tryz.prog call L (.region 0 (kO 0) false) S σ = some (.normal, S.store (some 2) (.slice none 0 0), { σ with next := σ.next + 1 }) := by
  refine regN call L ?_;rw [l0, n0, aT call g00 (a00 call), d00]; rfl
 have h1 : aX Tryz.prog call L (.region 1 clO1 false) (S.store (some 2) (.slice none 0 0)) { σ with next := σ.next + 1 } = some (.normal, ((S.store (some 2) (.slice none 0 0)).store (some 3) w).store (some 4) (.bool q), { σ with next := σ.next + 3 }) := by
  refine regN call L ?_;have e0 : (S.store (some 2) (.slice none 0 0)).at 0 = u := by rw [Go.Rf.at_store, if_neg (by decide)]; exact hu
  have e3 : ((S.store (some 2) (.slice none 0 0)).store (some 3) w).at 3 = w := by rw [Go.Rf.at_store, if_pos rfl]
  rw [show clO1.toList = [k1 0, k1 1] from rfl, show clO1.size = 2 from rfl, aT call (show (k1 0).guard = none from rfl) (by rw [b10, e0]; exact hl _ _ _), show (k1 0).dst = some 3 from rfl,
   aT call (show (k1 1).guard = none from rfl) (by rw [b11, e3]; exact hq _ _ _), show (k1 1).dst = some 4 from rfl]; rfl
 have e4 : ev (((S.store (some 2) (.slice none 0 0)).store (some 3) w).store (some 4) (.bool q)) (.tmp 4) = .bool q := by
  show Slots.at _ 4 = _; rw [Go.Rf.at_store, if_pos rfl]
 rw [clC_eq, seqN call L h0];cases q with
 | true =>
  rw [cdt, aX, seqN call L h1, condT call L e4]
  conv => rhs; rw [aX]
 | false =>
  rw [cdf, aX, seqN call L h1, condF call L e4, aX]
theorem headN {S : Slots} {u : Value} (hu : S.at 0 = u) (hl : ∀ (σ : St) b i, aop Tryz.prog call b i (k1 0) (one0 u) σ = none) : aX Tryz.prog call L (vA clB) S σ = none := by
 have h0 : aX Tryz.prog call L (.region 0 (kO 0) false) S σ = some (.normal, S.store (some 2) (.slice none 0 0), { σ with next := σ.next + 1 }) := by
  refine regN call L ?_;rw [l0, n0, aT call g00 (a00 call), d00]; rfl
 have e0 : (S.store (some 2) (.slice none 0 0)).at 0 = u := by rw [Go.Rf.at_store, if_neg (by decide)]; exact hu
 have h1 : aX Tryz.prog call L (.region 1 clO1 false) (S.store (some 2) (.slice none 0 0)) { σ with next := σ.next + 1 } = none := by
  rw [aX, dZ, cdf, show clO1.toList = [k1 0, k1 1] from rfl, nU call (show (k1 0).guard = none from rfl) (by rw [b10, e0]; exact hl _ _ _)]; rfl
 rw [clC_eq, seqN call L h0, aX, aX, h1]
theorem c_zeroS {S : Slots} {a : Option Addr} {c : Nat} (hu : S.at 0 = .slice a 0 c) : dP Tryz.prog clF (aX Tryz.prog call L (vA clB) S σ) = some (pP a, clS σ) := by
 rw [headC call L σ hu (fun _ _ _ => b10s call) (q := true) (fun _ _ _ => b11t call), cdt]
 have h2 : ∀ T : Slots, T.at 0 = .slice a 0 c → aX Tryz.prog call L (.region 2 clO2 false) T { σ with next := σ.next + 3 } = some (.normal, (((T.store (some 5) (.slice (some ⟨σ.next + 3, 0, none⟩) 0 0)).store (some 2) (pP a)).store (some 6) (.slice a 0 c)).store (some 6) (.slice a 0 c), clS σ) := fun T hT => regN call L (by
  have q1 : (T.store (some 5) (.slice (some ⟨σ.next + 3, 0, none⟩) 0 0)).at 0 = .slice a 0 c := by rw [Go.Rf.at_store, if_neg (by decide)]; exact hT
  have q2 : ((T.store (some 5) (.slice (some ⟨σ.next + 3, 0, none⟩) 0 0)).store (some 2) (pP a)).at 0 = .slice a 0 c := by rw [Go.Rf.at_store, if_neg (by decide)]; exact q1
  have q3 : (((T.store (some 5) (.slice (some ⟨σ.next + 3, 0, none⟩) 0 0)).store (some 2) (pP a)).store (some 6) (.slice a 0 c)).at 0 = .slice a 0 c := by rw [Go.Rf.at_store, if_neg (by decide)]; exact q2
  rw [show clO2.toList = [k2 0, k2 1, k2 2, k2 3] from rfl, show clO2.size = 4 from rfl]
  refine (aT call (show (k2 0).guard = none from rfl) (b20 call σ)).trans ?_
  refine (aT call (σ1 := clS σ) (v := pP a) (show (k2 1).guard = none from rfl) ?_).trans ?_
  ·rw [show (k2 0).dst = some 5 from rfl, b21, q1]; exact b21z call
  refine (aT call (σ1 := clS σ) (v := .slice a 0 c) (show (k2 2).guard = none from rfl) ?_).trans ?_
  ·rw [show (k2 0).dst = some 5 from rfl, show (k2 1).dst = some 2 from rfl, b22, q2]
  refine (aT call (σ1 := clS σ) (v := .slice a 0 c) (show (k2 3).guard = none from rfl) ?_).trans ?_
  ·rw [show (k2 0).dst = some 5 from rfl, show (k2 1).dst = some 2 from rfl, show (k2 2).dst = some 6 from rfl, b23, q3]
  rfl)
 rw [seqR call L ((seqN call L (h2 _ (at0 hu))).trans (by rw [aX])), fnC, Go.Rf.at_store, if_neg (by decide), Go.Rf.at_store, if_neg (by decide), Go.Rf.at_store, if_pos rfl]
theorem c_consS {S : Slots} {a : Addr} {n c : Nat} (hu : S.at 0 = .slice (some a) (n + 1) c) : dP Tryz.prog clF (aX Tryz.prog call L (vA clB) S σ) = dP Tryz.prog Tryz.f103 (aX Tryz.prog call L clB S σ) := by
 rw [aEx call L σ hu, headC call L σ hu (fun _ _ _ => b10s call) (q := false) (fun _ _ _ => b11f call), cdf]
 exact R_eqS call L σ (at0 hu) fnC rfl
end
end Go.Rf
namespace Go.Rf
open Go.AI Go.Proofs
theorem fill_0 (u : Value) (rest : List Value) : (jF (u :: rest) 0 .nil).at 0 = u := by
 rw [oV, if_pos ⟨nlR _, by simp⟩]; rfl
theorem fill_n : (jF [] 0 .nil).at 0 = undef := rfl
theorem aFQ (w0 : W0) : RepOK w0 Tryz.prog 103 clF (vA clB) := by
 refine ⟨⟨_, _, cl_get, aFR, by kernel_rfl⟩, ?_⟩
 intro call L hcall args args' σ σ' w μ r h Z hargs;have hc := hcall w0 rfl;have run := fun {args2 : Array Value} {σ1 σ2 : St} {r2 : Value} (h2 : dP Tryz.prog Tryz.f103 (aX Tryz.prog call L clB (jF args2.toList 0 .nil) σ1) = some (r2, σ2)) (Z2 : Sim w0 Tryz.prog μ σ1 w) (ha : VRL μ args2.toList args'.toList) =>
  (vJ (P := Tryz.prog) pS cl_get aFR cl_ok hc h2 Z2 ha).2
 cases hA : args.toList with
 | nil =>
  rw [hA, headN call L σ fill_n (fun _ _ _ => by kernel_rfl)] at h
  exact absurd ((by kernel_rfl : none = dP Tryz.prog clF none).trans h) (fun e => by cases e)
 | cons u rest =>
  rw [hA] at h hargs;obtain ⟨u', rest', hA', ru, rr⟩ := hargs.cons_inv;have hu := fill_0 u rest;have hsl : ∃ a n c, u = .slice a n c := by
   cases u with
   | slice a n c => exact ⟨a, n, c, rfl⟩
   | _ =>
    rw [headN call L σ hu (fun _ _ _ => by kernel_rfl)] at h
    exact absurd ((by kernel_rfl : none = dP Tryz.prog clF none).trans h) (fun e => by cases e)
  obtain ⟨a, n, c, rfl⟩ := hsl;cases n with
  | zero =>
   rw [c_zeroS call L σ hu] at h;simp only [ojE, pjE] at h;obtain ⟨rfl, rfl⟩ := h;cases a with
   | none =>
    obtain ⟨_, rfl, rfl⟩ := ru.nilslc_inv;have Z2 : Sim w0 Tryz.prog μ (({ σ with next := σ.next + 3 } : St).put (σ.next + 3) (.cells [] (bG 11))) w :=
     (Z.next (by omega)).put_new (Z.dom _ (by omega)) (fun cs m g v e1 e2 => by cases e1; cases e2)
    have h2 := p_nilS call L (({ σ with next := σ.next + 3 } : St).put (σ.next + 3) (.cells [] (bG 11))) hu
    refine (run (args2 := args) (by rw [hA]; exact h2) Z2 (by rw [hA]; exact hargs)).mono ?_
    rintro e w' ⟨μ', r', he, hr, hZ, hE, hn⟩;refine ⟨μ', r', he, hr, hZ, ⟨hE.1, fun id hi => hE.2 id ?_⟩, ?_⟩
    ·show id < σ.next + 3; omega
    ·show σ.next ≤ σ.next + 7; omega
   | some a =>
    have hus : ∃ a' cap, u' = .slice (some a') 0 cap := by
     cases ru with
     | same _ h => simp [aC] at h
     | slc => exact ⟨_, _, rfl⟩
     | emp => exact ⟨_, _, rfl⟩
    obtain ⟨a', cap, rfl⟩ := hus;have h2 := p_empS call L σ (fill_0 wS rest);refine (run (args2 := (wS :: rest).toArray) (by simpa using h2) Z (by rw [hA']; exact VRL.cons (x := wS) (.emp a' 0 cap (fun e => by cases e)) rr)).mono ?_
    rintro e w' ⟨μ', r', he, hr, hZ, hE, hn⟩;obtain ⟨p, cap', hp, rfl, hcap, _⟩ := hr.slc_inv;obtain rfl := hcap rfl;exact ⟨μ', _, he, .emp _ 1 0 (fun _ => rfl), hZ, hE, hn⟩
  | succ n =>
   cases a with
   | none => exact absurd ru.nilslc_inv.1 (by simp)
   | some a =>
    rw [c_consS call L σ hu] at h;exact run (args2 := args) (by rw [hA]; exact h) Z (by rw [hA]; exact hargs)
end Go.Rf
namespace Go.Rf
open Go.AI Go.Proofs
noncomputable def cdQ : Program := { Tryz.prog with funcs := ⟨(Tryz.prog.funcs.toList.set 43 tyF).set 103 clF⟩ }
theorem cdQ_get {f : Nat} {fn : Func} (h : cdQ.funcs[f]? = some fn) : (f = 103 ∧ fn = clF) ∨ (f = 43 ∧ fn = tyF) ∨ (Tryz.prog.funcs[f]? = some fn ∧ fn ∈ cdQ.funcs.toList) := by
 have h1 : ((Tryz.prog.funcs.toList.set 43 tyF).set 103 clF)[f]? = some fn := by simpa [cdQ] using h
 have hm : fn ∈ cdQ.funcs.toList := List.mem_of_getElem? h1;by_cases e0 : f = 103
 ·subst e0;left;rw [List.getElem?_set] at h1;simp only [if_true] at h1;split at h1
  ·exact ⟨rfl, (Option.some.inj h1).symm⟩
  ·cases h1
 ·rw [List.getElem?_set, if_neg (Ne.symm e0)] at h1;right;by_cases e : f = 43
  ·subst e;left;rw [List.getElem?_set] at h1;simp only [if_true] at h1;split at h1
   ·exact ⟨rfl, (Option.some.inj h1).symm⟩
   ·cases h1
  ·right;rw [List.getElem?_set, if_neg (Ne.symm e)] at h1;exact ⟨by simpa using h1, hm⟩
theorem code_okQ (h : cdQ.funcs.toList.all (jB Tryz.prog) = true) (w0 : W0) : CodeOK w0 Tryz.prog cdQ := fun f fn c hf hb => by
 rcases cdQ_get hf with ⟨rfl, rfl⟩ | ⟨rfl, rfl⟩ | ⟨h1, h2⟩
 ·right;have : c = vA clB := (Option.some.inj hb).symm;subst this;exact aFQ w0
 ·right;have : c = swapC tyB := (Option.some.inj hb).symm;subst this;exact aDM w0
 ·exact .inl ⟨h1, List.all_eq_true.1 h _ h2⟩
end Go.Rf
