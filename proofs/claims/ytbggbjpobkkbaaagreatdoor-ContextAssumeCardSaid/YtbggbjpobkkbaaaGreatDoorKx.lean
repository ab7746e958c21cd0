import Derived.Test.YtbggbjpobkkbaaaGreatDoorKw
import Derived.Test.YtbggbjpobkkbaaaGreatDoorKr
set_option linter.unusedVariables false
set_option linter.unusedSimpArgs false
set_option linter.constructorNameAsVariable false
namespace Go.TV
open Go.AI Go.PI Go.Proofs
theorem wrapm {k : Nat} (h : k < 4000000000000000000) : IntKind.i64.wrap (((k + 1 : Nat) : Int) - 1) = (k : Int) := by
 unfold IntKind.wrap;simp [IntKind.bits, IntKind.signed];omega
theorem EqP_loop {c : TC0} {L : Nat} {n1 : G.O → G.O → Rt} {a b : G.O} (hl : a.pair.length = b.pair.length) (hb : a.pair.length < 1000000000)
    {s : Nat} (hs : a.pair.length = s + 1) : ∀ (l : List G.O) (x : G.O) (r : List G.O) (k m : Nat), a.pair.drop k = x :: l → b.pair.drop k = r → l.length < m →
    (∀ x, x ∈ a.pair → ∀ y, c 147 (oo x y) = some (bb (decide (x = y)))) → (∀ x, x ∈ a.pair → ∀ y, n1 x y = some (bb (decide (x = y)))) →
    qP c L n1 m (s : Int) (k : Int) ((s + 1 : Nat) : Int) a b = some (bb (decide (x :: l = r))) := by
 intro l;induction l with
 | nil =>
  intro x r k m h1 h2 h3 hc hn;obtain ⟨m, rfl⟩ : ∃ m', m = m' + 1 := ⟨m - 1, by simp at h3; omega⟩
  obtain ⟨a1, a2, a3⟩ := bD h1;have hk : k = s := by have := bE a3; omega
  subst hk;cases r with
  | nil => have := bE h2; omega
  | cons y r =>
   obtain ⟨b1, b2, b3⟩ := bD h2;have hr : r = [] := by rw [← b3]; exact List.drop_eq_nil_of_le (by omega)
   subst hr;have e3 : decide ((k : Int) < (k : Int)) = false := by simp
   rw [qP, aCr, e3, aJ, wrapm (by omega), aM, aM, a1, b1, eR, eR, hn x (List.mem_of_getElem? a1)]
   simp
 | cons z l ih =>
  intro x r k m h1 h2 h3 hc hn;obtain ⟨m, rfl⟩ : ∃ m', m = m' + 1 := ⟨m - 1, by simp at h3; omega⟩
  obtain ⟨a1, a2, a3⟩ := bD h1;obtain ⟨a4, a5, a6⟩ := bD a3;cases r with
  | nil => have := bE h2; omega
  | cons y r =>
   obtain ⟨b1, b2, b3⟩ := bD h2;have e3 : decide ((k : Int) < (s : Int)) = true := by simp; omega
   have hxy : c 147 [yR 2 x, yR 2 y] = some [yB (decide (x = y))] := hc x (List.mem_of_getElem? a1) y;rw [qP, aCr, e3, aW, aM, aM, a1, b1, eR, eR, hxy, fE, dQ (by omega)]
   by_cases e : x = y
   ·subst e;simp only [decide_true, bnT, aJ];rw [ih z r (k + 1) m a3 b3 (by simp at h3; omega) hc hn]
    simp
   ·simp only [e, decide_false, Bool.not_false, aW];simp [e, bb]
theorem EqW_ok : ∀ (a : G.O), wfO a → ∀ (b : G.O) (L n m : Nat), osz a ≤ L → osz a ≤ n → osz a ≤ m → oB (CTp L n) L m a b = some (bb (decide (a = b))) := by
 intro a;induction a using aEG with
 | h k nu d s t l ih =>
  intro hw b L n m hL hn hm;simp only [wfO, osz] at hw hL hn hm;have hlen := zN l;obtain ⟨m, rfl⟩ : ∃ n', m = n' + 1 := ⟨m - 1, by omega⟩
  obtain ⟨n, rfl⟩ : ∃ n', n = n' + 1 := ⟨n - 1, by omega⟩
  cases b with | mk k' nu' d' s' t' l' =>
  rw [oB];simp only [aGF, aGU, aGT, G.O.kind, G.O.num, G.O.den, G.O.sym, G.O.text, G.O.pair, G.O.mk.injEq];by_cases e1 : k = k'
  ·by_cases e2 : nu = nu'
   ·by_cases e3 : d = d'
    ·by_cases e4 : s = s'
     ·by_cases e5 : t = t'
      ·by_cases e6 : (l.length : Int) = (l'.length : Int)
       ·simp only [e1, e2, e3, e4, e5, e6, decide_true, bnT, aJ, aW, true_and];cases l with
        | nil =>
         have : l' = [] := List.eq_nil_of_length_eq_zero (by simp at e6; omega)
         subst this;simp [cnd, bb]
        | cons x l =>
         have e7 : decide ((l'.length : Int) = 0) = false := by simp only [lcS] at e6; simp; intro h; simp [h] at e6; omega
         rw [e7, aJ, ← e6];have hW : ∀ y, y ∈ x :: l → ∀ z, oB (CTp L (n + 1)) L m y z = some (bb (decide (y = z))) := fun y hy z =>
          ih y hy (by have := fD hy; simp only [wfO]; omega) z L (n + 1) m (by have := fD hy; omega) (by have := fD hy; omega) (by have := fD hy; omega)
         have hC : ∀ y, y ∈ x :: l → ∀ z, CTp L (n + 1) 147 (oo y z) = some (bb (decide (y = z))) := fun y hy z => by
          show CTp L (n + 1) 147 [yR 2 _, yR 2 _] = _;rw [c147];exact ih y hy (by have := fD hy; simp only [wfO]; omega) z L n L (by have := fD hy; omega) (by have := fD hy; omega) (by have := fD hy; omega)
         have hz : IntKind.i64.wrap (((x :: l).length : Int) - 1) = (l.length : Int) := wrapm (by simp only [lcS] at hlen; omega)
         rw [hz];have := EqP_loop (c := CTp L (n + 1)) (L := L) (n1 := fun x0 x1 => oB (CTp L (n + 1)) L m x0 x1) (a := ⟨k, nu, d, s, t, x :: l⟩) (b := ⟨k', nu', d', s', t', l'⟩) (s := l.length) (by show (x :: l).length = l'.length; omega) (by show (x :: l).length < _; omega) rfl l x l' 0 L rfl rfl (by simp only [lcS] at hlen; omega) hC hW
         subst e1 e2 e3 e4 e5;exact this
       ·have e7 : ¬ l = l' := fun h => e6 (by rw [h])
        simp [e1, e2, e3, e4, e5, e6, e7, cnd, bb]
      ·simp [e1, e2, e3, e4, e5, cnd, bb]
     ·simp [e1, e2, e3, e4, cnd, bb]
    ·simp [e1, e2, e3, cnd, bb]
   ·simp [e1, e2, cnd, bb]
  ·simp [e1, cnd, bb]
theorem EqOb_ok (a : G.O) (hw : wfO a) (b : G.O) (L n : Nat) (hL : osz a ≤ L) (hn : osz a < n) : CTp L n 147 (oo a b) = some (bb (decide (a = b))) := by
 obtain ⟨n, rfl⟩ : ∃ n', n = n' + 1 := ⟨n - 1, by omega⟩
 show CTp L (n + 1) 147 [yR 2 _, yR 2 _] = _;rw [c147];exact EqW_ok a hw b L n L hL (by omega) hL
theorem EqB_loop {c : TC0} {L : Nat} {a b : List G.T} (hl : a.length = b.length) (hb : a.length < 1000000000) : ∀ (l r : List G.T) (k m : Nat), a.drop k = l → b.drop k = r → l.length < m →
    (∀ x, x ∈ l → ∀ y, c 136 (tt2 x y) = some (bb (decide (x = y)))) → qO c L m (a.length : Int) a b (k : Int) = some (bb (decide (l = r))) := by
 intro l;induction l with
 | nil =>
  intro r k m h1 h2 h3 _;obtain ⟨m, rfl⟩ : ∃ m', m = m' + 1 := ⟨m - 1, by simp at h3; omega⟩
  have e1 := bE h1;have e2 : r = [] := by rw [← h2]; exact List.drop_eq_nil_of_le (by omega)
  have e3 : decide ((k : Int) < (a.length : Int)) = false := by simp; omega
  rw [qO, aCq, e3, e2];simp only [aJ, decide_true]; rfl
 | cons x l ih =>
  intro r k m h1 h2 h3 hc;obtain ⟨m, rfl⟩ : ∃ m', m = m' + 1 := ⟨m - 1, by simp at h3; omega⟩
  obtain ⟨a1, a2, a3⟩ := bD h1;cases r with
  | nil => have := bE h2; omega
  | cons y r =>
   obtain ⟨b1, b2, b3⟩ := bD h2;have e3 : decide ((k : Int) < (a.length : Int)) = true := by simp; omega
   have hxy : c 136 [yR 3 x, yR 3 y] = some [yB (decide (x = y))] := hc x (mhE ..) y;rw [qO, aCq, e3, aW, aM, aM, a1, b1, eR, eR, hxy, fE, dQ (by omega)]
   by_cases e : x = y
   ·subst e;simp only [decide_true, bnT, aJ];rw [ih r (k + 1) m a3 b3 (by simp at h3; omega) fun z hz => hc z (mtE _ hz)]
    simp
   ·simp only [e, decide_false, Bool.not_false, aW];simp [e, bb]
theorem EqF_of {a b : List G.T} {L n : Nat} (hw : a.length < 1000000000) (hL : a.length < L) (hx : ∀ x, x ∈ a → ∀ y, CTp L n 136 (tt2 x y) = some (bb (decide (x = y)))) :
    CTp L (n + 1) 148 (ll2 a b) = some (bb (decide (a = b))) := by
 show CTp L (n + 1) 148 [yS 3 _, yS 3 _] = _;rw [c148];simp only [F148, aGS];by_cases e6 : (a.length : Int) = (b.length : Int)
 ·have := EqB_loop (c := CTp L n) (L := L) (by omega) hw a b 0 L rfl rfl hL hx
  rw [e6] at this;simp only [e6, decide_true, bnT, aJ];exact this
 ·have e7 : ¬ a = b := fun h => e6 (by rw [h])
  simp [e6, e7, cnd, bb]
theorem TEq_ok : ∀ (a : G.T), wfT a → ∀ (b : G.T) (L n : Nat), tsz a ≤ L → tsz a ≤ n → CTp L n 136 (tt2 a b) = some (bb (decide (a = b))) := by
 intro a;induction a using aDO with
 | h k nm v l ih =>
  intro hw b L n hL hn;simp only [wfT, tsz] at hw hL hn;have hlen := fA l;obtain ⟨n, rfl⟩ : ∃ n', n = n' + 2 := ⟨n - 2, by omega⟩
  cases b with | mk k' nm' v' l' =>
  show CTp L (n + 1 + 1) 136 [yR 3 _, yR 3 _] = _;rw [c136];have hv : CTp L (n + 1) 147 [yR 2 v, yR 2 v'] = some [yB (decide (v = v'))] := EqOb_ok v (by simp only [wfO]; omega) v' L (n + 1) (by omega) (by omega)
  have hl : CTp L (n + 1) 148 [yS 3 l, yS 3 l'] = some [yB (decide (l = l'))] := EqF_of (by omega) (by omega) fun x hx y => ih x hx (by have := dY hx; simp only [wfT]; omega) y L n (by have := dY hx; omega) (by have := dY hx; omega)
  simp only [F136, aGW, aGG, aGV, G.T.kind, G.T.name, G.T.value, G.T.args, G.T.mk.injEq, hv, hl, fE];by_cases e1 : k = k'
  ·by_cases e2 : nm = nm'
   ·by_cases e3 : v = v'
    ·simp [e1, e2, e3, cnd, bb]
    ·simp [e1, e2, e3, cnd, bb]
   ·simp [e1, e2, cnd, bb]
  ·simp [e1, cnd, bb]
end Go.TV
namespace Go.TV
open Go.AI Go.PI Go.Proofs
set_option maxRecDepth 20000
noncomputable section
variable (c : TC0) (e : Cu) (L : Nat)
def q0x0 (c : TC0) (e : Cu) : Kt := xK ii0
def q0x1 (c : TC0) (e : Cu) : Kt := xT ii0 c e [1, 1, 1, 1, 1, 1, 1] (q0x0 c e)
def B0x0 (c : TC0) (k1 : Bool → List G.E → List G.T → Int → G.Z → Rt) (a0 : List Int) (a1 : Int) : Rt :=
 obL [.bool] (c 1 []) fun (r0 : Bool × Unit) =>
 cnd (!r0.1) (some [yB false]) (cnd (decide ((100 : Int) < (List.length a0 : Int))) (some [yB true]) (obL [zS 15] (c 2 [⟨(.int .u32), (0 : Int)⟩]) fun (r1 : List G.E × Unit) =>
 obL [zS 3, .rc 0] (c 3 [yS 15 r1.1, yI (6 : Int), yI (2 : Int), yR 0 (G.Z.mk a0 (0 : Int))]) fun (r2 : List G.T × G.Z × Unit) =>
 cnd (decide ((8 : Int) < a1)) (k1 true r1.1 r2.1 a1 r2.2.1) (k1 (decide (a1 < (-2 : Int))) r1.1 r2.1 a1 r2.2.1)))
def V0x0 (n : Nt) : List Int → Int → Rt := fun x0 x1 => n [⟨(.sl (.int .u8)), x0⟩, yI x1]
def B0x1 (c : TC0) (k2 : List G.E → List G.T → Int → G.Z → Rt) (a27 : Bool) (a5 : List G.E) (a7 : List G.T) (a1 : Int) (b118 : G.Z) : Rt :=
 cnd a27 (k2 a5 a7 (-1 : Int) b118) (k2 a5 a7 a1 b118)
def V0x1 (n : Nt) : Bool → List G.E → List G.T → Int → G.Z → Rt := fun x0 x1 x2 x3 x4 => n [yB x0, yS 15 x1, yS 3 x2, yI x3, yR 0 x4]
def X0x1 := V0x1 (xD ii0 e [1, 1, 1, 1, 1, 1, 0, 1, 0] ct0x1 (q0x1 c e))
def B0x2 (c : TC0) (k3 : Bool → Rt) (a5 : List G.E) (a7 : List G.T) (a1 : Int) (b118 : G.Z) : Rt :=
 obL [zS 3] (c 4 [yS 3 a7, yI a1]) fun (r0 : List G.T × Unit) =>
 obL [.rc 3, .rc 0] (c 5 [yS 15 a5, yI (2 : Int), yR 0 b118]) fun (r1 : G.T × G.Z × Unit) =>
 obL [zS 3] (c 6 [yS 3 a7, yI a1]) fun (r2 : List G.T × Unit) =>
 obL [.bool] (c 7 [yS 3 r0.1, yS 3 r2.1]) fun (r3 : Bool × Unit) =>
 cnd r3.1 (obL [zS 3] (c 8 [yS 3 r0.1, yR 3 r1.1]) fun (r4 : List G.T × Unit) =>
 obL [zS 3] (c 9 [yS 3 r0.1, yR 3 r1.1]) fun (r5 : List G.T × Unit) =>
 obL [.bool] (c 10 [yS 3 r4.1, yS 3 r5.1]) fun (r6 : Bool × Unit) =>
 k3 r6.1) (k3 false)
def V0x2 (n : Nt) : List G.E → List G.T → Int → G.Z → Rt := fun x0 x1 x2 x3 => n [yS 15 x0, yS 3 x1, yI x2, yR 0 x3]
def X0x2 := V0x2 (xD ii0 e [1, 1, 1, 1, 1, 1, 1, 0] ct0x2 (q0x0 c e))
def B0x3 (c : TC0) (a4 : Bool) : Rt :=
 some [yB a4]
def V0x3 (n : Nt) : Bool → Rt := fun x0 => n [yB x0]
def X0x3 := V0x3 (xD ii0 e [1, 1, 1, 1, 1, 1, 1, 0, 1, 1, 1, 0] ct0x3 (q0x0 c e))
theorem s0x0 : V0x0 (xF ii0 c e) = B0x0 c (X0x1 c e) := by kernel_rfl
theorem s0x1 : V0x1 (xA ii0 c e [1, 1, 1, 1, 1, 1, 0, 1, 0] ct0x1 (q0x1 c e)) = B0x1 c (X0x2 c e) := by kernel_rfl
theorem s0x2 : V0x2 (xA ii0 c e [1, 1, 1, 1, 1, 1, 1, 0] ct0x2 (q0x0 c e)) = B0x2 c (X0x3 c e) := by kernel_rfl
theorem s0x3 : V0x3 (xA ii0 c e [1, 1, 1, 1, 1, 1, 1, 0, 1, 1, 1, 0] ct0x3 (q0x0 c e)) = B0x3 c := by kernel_rfl
def J0x3 (c : TC0) (L : Nat) : Bool → Rt := B0x3 c
theorem j0x3 : X0x3 c (cu c L) = J0x3 c L := by rw [X0x3, bN, s0x3]; rfl
def J0x2 (c : TC0) (L : Nat) : List G.E → List G.T → Int → G.Z → Rt := B0x2 c (J0x3 c L)
theorem j0x2 : X0x2 c (cu c L) = J0x2 c L := by rw [X0x2, bN, s0x2]; simp only [j0x3]; rfl
def J0x1 (c : TC0) (L : Nat) : Bool → List G.E → List G.T → Int → G.Z → Rt := B0x1 c (J0x2 c L)
theorem j0x1 : X0x1 c (cu c L) = J0x1 c L := by rw [X0x1, bN, s0x1]; simp only [j0x2]; rfl
def F0 (c : TC0) (L : Nat) : List Int → Int → Rt := B0x0 c (J0x1 c L)
theorem e0 : V0x0 (xF ii0 c (cu c L)) = F0 c L := by rw [s0x0]; simp only [j0x1]; rfl
theorem c0 (a0 : List Int) (a1 : Int) (L n : Nat) : CTp L (n + 1) 0 [⟨(.sl (.int .u8)), a0⟩, yI a1] = F0 (CTp L n) L a0 a1 := by rw [← e0]; exact cg (x := ii0) (by kernel_rfl) (by kernel_rfl) L n _
def q2x0 (c : TC0) (e : Cu) : Kt := xK ii2
def q2x1 (c : TC0) (e : Cu) : Kt := xT ii2 c e [1, 1, 1, 1] (q2x0 c e)
def q2x2 (c : TC0) (e : Cu) : Kt := eJ U0 0 (q2x1 c e)
def q2x3 (c : TC0) (e : Cu) : Kt := xT ii2 c e [1, 1, 1, 1, 1, 1] (q2x0 c e)
def q2x4 (c : TC0) (e : Cu) : Kt := eJ U0 2 (q2x3 c e)
def q2x5 (c : TC0) (e : Cu) (n2 : Nt) : Kt := lpK U0 aC2 n2 (q2x4 c e)
def B2x0 (c : TC0) (e1 : (List (List G.F)) → Int → Int → List G.E → Rt) (a0 : Int) : Rt :=
 obL [zS 15] (c 13 []) fun (r0 : List G.E × Unit) =>
 obL [.sl (zS 4)] (c 14 []) fun (r1 : (List (List G.F)) × Unit) =>
 e1 r1.1 (0 : Int) a0 r0.1
def V2x0 (n : Nt) : Int → Rt := fun x0 => n [⟨(.int .u32), x0⟩]
def B2x1 (c : TC0) (n1 : (List (List G.F)) → Int → Int → List G.E → Rt) (e2 : Int → List G.L → Int → List G.E → Rt) (a4 : (List (List G.F))) (a5 : Int) (a0 : Int) (a3 : List G.E) : Rt :=
 cnd (decide (a5 < (List.length a4 : Int))) (ob (idx a4 a5) fun v0 =>
 ob (idx v0 (0 : Int)) fun v1 =>
 ob (idx a4 a5) fun v2 =>
 chk (Nat.ble ((List.length a3 + List.length ([(G.E.mk (3 : Int) v1.name (G.A.mk ([] : List UInt8) ([] : List G.Y)) (G.M.mk (G.Y.mk ([] : List UInt8) ([] : List UInt8)) ([] : List G.Y) false (G.T.mk (0 : Int) (G.Y.mk ([] : List UInt8) ([] : List UInt8)) (G.O.mk (0 : Int) ([] : List UInt8) ([] : List UInt8) (G.Y.mk ([] : List UInt8) ([] : List UInt8)) ([] : List UInt8) ([] : List G.O)) ([] : List G.T))) v2 ([] : List G.T) ([] : List (List G.N)) ([] : List G.E) (G.B.mk (G.Y.mk ([] : List UInt8) ([] : List UInt8)) ([] : List G.D)) ([] : List G.U) ([] : List G.Y) ([] : List G.Y) ([] : List UInt8) (0 : Int))] : List G.E)) * 568) 1073741824) <|
 n1 a4 (IntKind.i64.wrap (a5 + (1 : Int))) a0 (a3 ++ ([(G.E.mk (3 : Int) v1.name (G.A.mk ([] : List UInt8) ([] : List G.Y)) (G.M.mk (G.Y.mk ([] : List UInt8) ([] : List UInt8)) ([] : List G.Y) false (G.T.mk (0 : Int) (G.Y.mk ([] : List UInt8) ([] : List UInt8)) (G.O.mk (0 : Int) ([] : List UInt8) ([] : List UInt8) (G.Y.mk ([] : List UInt8) ([] : List UInt8)) ([] : List UInt8) ([] : List G.O)) ([] : List G.T))) v2 ([] : List G.T) ([] : List (List G.N)) ([] : List G.E) (G.B.mk (G.Y.mk ([] : List UInt8) ([] : List UInt8)) ([] : List G.D)) ([] : List G.U) ([] : List G.Y) ([] : List G.Y) ([] : List UInt8) (0 : Int))] : List G.E))) (obL [zS 16] (c 15 []) fun (r3 : List G.L × Unit) =>
 e2 a0 r3.1 (0 : Int) a3)
def V2x1 (n : Nt) : (List (List G.F)) → Int → Int → List G.E → Rt := fun x0 x1 x2 x3 => n [⟨.sl (zS 4), x0⟩, yI x1, ⟨(.int .u32), x2⟩, yS 15 x3]
def X2x1 := V2x1 (xE ii2 e [1, 1, 1, 0, 1, 0, 0] aFH (q2x2 c e))
def B2x2 (c : TC0) (k3 : Int → Int → List G.L → List G.E → Rt) (a0 : Int) (a6 : List G.L) (a7 : Int) (a3 : List G.E) : Rt :=
 cnd (decide (a7 < (List.length a6 : Int))) (chk (decide (0 ≤ a7)) <|
 cnd (decide ((IntKind.u32.wrap ((BitVec.ofInt IntKind.u32.bits (Int.fdiv a0 (2 ^ (min (Int.toNat a7) IntKind.u32.bits))) &&& BitVec.ofInt IntKind.u32.bits (1 : Int)).toNat : Int)) = (0 : Int))) (k3 a7 a0 a6 a3) (ob (idx a6 a7) fun v0 =>
 ob (idx a6 a7) fun v1 =>
 obL [.rc 1] (c 16 [yT v0.name]) fun (r2 : G.Y × Unit) =>
 ob (idx a6 a7) fun v3 =>
 ob (idx a6 a7) fun v4 =>
 none)) (some [yS 15 a3])
def V2x2 (n : Nt) : Int → List G.L → Int → List G.E → Rt := fun x0 x1 x2 x3 => n [⟨(.int .u32), x0⟩, yS 16 x1, yI x2, yS 15 x3]
def X2x2 := V2x2 (xE ii2 e [1, 1, 1, 1, 1, 0, 1, 0, 0] aC2 (q2x4 c e))
def B2x3 (c : TC0) (n2 : Int → List G.L → Int → List G.E → Rt) (a7 : Int) (a0 : Int) (a6 : List G.L) (a3 : List G.E) : Rt :=
 n2 a0 a6 (IntKind.i64.wrap (a7 + (1 : Int))) a3
def V2x3 (n : Nt) : Int → Int → List G.L → List G.E → Rt := fun x0 x1 x2 x3 => n [yI x0, ⟨(.int .u32), x1⟩, yS 16 x2, yS 15 x3]
def X2x3 (n2 : Nt) := V2x3 (xD ii2 e [1, 1, 1, 1, 1, 0, 1, 0, 0, 1, 1, 0] ct2x3 (q2x5 c e n2))
theorem s2x0 : V2x0 (xF ii2 c e) = B2x0 c (X2x1 c e) := by kernel_rfl
theorem s2x1 (n1 : Nt) : V2x1 (xA ii2 c e [1, 1, 1, 0, 1, 0, 0] aFH (lpK U0 aFH n1 (q2x2 c e))) = B2x1 c (V2x1 n1) (X2x2 c e) := by kernel_rfl
theorem s2x2 (n2 : Nt) : V2x2 (xA ii2 c e [1, 1, 1, 1, 1, 0, 1, 0, 0] aC2 (lpK U0 aC2 n2 (q2x4 c e))) = B2x2 c (X2x3 c e n2) := by kernel_rfl
theorem s2x3 (n2 : Nt) : V2x3 (xA ii2 c e [1, 1, 1, 1, 1, 0, 1, 0, 0, 1, 1, 0] ct2x3 (q2x5 c e n2)) = B2x3 c (V2x2 n2) := by kernel_rfl
def J2x3 (c : TC0) (L : Nat) (n2 : Int → List G.L → Int → List G.E → Rt) : Int → Int → List G.L → List G.E → Rt := B2x3 c n2
theorem j2x3 (n2 : Nt) : X2x3 c (cu c L) n2 = J2x3 c L (V2x2 n2) := by rw [X2x3, bN, s2x3]; rfl
def W2x2 (c : TC0) (L : Nat) : Nat → Int → List G.L → Int → List G.E → Rt
 | 0 => fun _ _ _ _ => none
 | n + 1 => B2x2 c (J2x3 c L (W2x2 c L n))
theorem u2x2 (n : Nat) : V2x2 (xL ii2 c L [1, 1, 1, 1, 1, 0, 1, 0, 0] aC2 (q2x4 c (cu c L)) n) = W2x2 c L n := by
 induction n with
 | zero => rfl
 | succ n ih => rw [iQ, s2x2]; simp only [j2x3, ih]; rfl
theorem w2x2 : X2x2 c (cu c L) = W2x2 c L L := u2x2 c L L
def W2x1 (c : TC0) (L : Nat) : Nat → (List (List G.F)) → Int → Int → List G.E → Rt
 | 0 => fun _ _ _ _ => none
 | n + 1 => B2x1 c (W2x1 c L n) (W2x2 c L L)
theorem u2x1 (n : Nat) : V2x1 (xL ii2 c L [1, 1, 1, 0, 1, 0, 0] aFH (q2x2 c (cu c L)) n) = W2x1 c L n := by
 induction n with
 | zero => rfl
 | succ n ih => rw [iQ, s2x1]; simp only [w2x2, ih]; rfl
theorem w2x1 : X2x1 c (cu c L) = W2x1 c L L := u2x1 c L L
def F2 (c : TC0) (L : Nat) : Int → Rt := B2x0 c (W2x1 c L L)
theorem e2 : V2x0 (xF ii2 c (cu c L)) = F2 c L := by rw [s2x0]; simp only [w2x1]; rfl
theorem c2 (a0 : Int) (L n : Nat) : CTp L (n + 1) 2 [⟨(.int .u32), a0⟩] = F2 (CTp L n) L a0 := by rw [← e2]; exact cg (x := ii2) (by kernel_rfl) (by kernel_rfl) L n _
def q3x0 (c : TC0) (e : Cu) : Kt := xK ii3
def q3x1 (c : TC0) (e : Cu) : Kt := xT ii3 c e [1, 1, 1, 1] (q3x0 c e)
def q3x2 (c : TC0) (e : Cu) : Kt := eJ U0 0 (q3x1 c e)
def B3x0 (c : TC0) (e1 : Int → List G.E → Int → Int → List G.T → G.Z → Rt) (a1 : List G.E) (a2 : Int) (a3 : Int) (b0 : G.Z) : Rt :=
 obL [i6, .rc 0] (c 17 [yI a2, yR 0 b0]) fun (r0 : Int × G.Z × Unit) =>
 e1 (IntKind.i64.wrap ((1 : Int) + r0.1)) a1 a3 (0 : Int) ([] : List G.T) r0.2.1
def V3x0 (n : Nt) : List G.E → Int → Int → G.Z → Rt := fun x0 x1 x2 x3 => n [yS 15 x0, yI x1, yI x2, yR 0 x3]
def B3x1 (c : TC0) (n1 : Int → List G.E → Int → Int → List G.T → G.Z → Rt) (a10 : Int) (a1 : List G.E) (a3 : Int) (a11 : Int) (a9 : List G.T) (b0 : G.Z) : Rt :=
 cnd (decide (a11 < a10)) (obL [.rc 3, .rc 0] (c 5 [yS 15 a1, yI a3, yR 0 b0]) fun (r0 : G.T × G.Z × Unit) =>
 obL [zS 3] (c 18 [yS 3 a9, yS 3 ([r0.1] : List G.T)]) fun (r1 : List G.T × Unit) =>
 n1 a10 a1 a3 (IntKind.i64.wrap (a11 + (1 : Int))) r1.1 r0.2.1) (some [yS 3 a9, yR 0 b0])
def V3x1 (n : Nt) : Int → List G.E → Int → Int → List G.T → G.Z → Rt := fun x0 x1 x2 x3 x4 x5 => n [yI x0, yS 15 x1, yI x2, yI x3, yS 3 x4, yR 0 x5]
def X3x1 := V3x1 (xE ii3 e [1, 1, 1, 0, 1, 0, 0] aFG (q3x2 c e))
theorem s3x0 : V3x0 (xF ii3 c e) = B3x0 c (X3x1 c e) := by kernel_rfl
theorem s3x1 (n1 : Nt) : V3x1 (xA ii3 c e [1, 1, 1, 0, 1, 0, 0] aFG (lpK U0 aFG n1 (q3x2 c e))) = B3x1 c (V3x1 n1) := by kernel_rfl
def W3x1 (c : TC0) (L : Nat) : Nat → Int → List G.E → Int → Int → List G.T → G.Z → Rt
 | 0 => fun _ _ _ _ _ _ => none
 | n + 1 => B3x1 c (W3x1 c L n)
theorem u3x1 (n : Nat) : V3x1 (xL ii3 c L [1, 1, 1, 0, 1, 0, 0] aFG (q3x2 c (cu c L)) n) = W3x1 c L n := by
 induction n with
 | zero => rfl
 | succ n ih => rw [iQ, s3x1]; simp only [ih]; rfl
theorem w3x1 : X3x1 c (cu c L) = W3x1 c L L := u3x1 c L L
def F3 (c : TC0) (L : Nat) : List G.E → Int → Int → G.Z → Rt := B3x0 c (W3x1 c L L)
theorem e3 : V3x0 (xF ii3 c (cu c L)) = F3 c L := by rw [s3x0]; simp only [w3x1]; rfl
theorem c3 (a1 : List G.E) (a2 : Int) (a3 : Int) (b0 : G.Z) (L n : Nat) : CTp L (n + 1) 3 [yS 15 a1, yI a2, yI a3, yR 0 b0] = F3 (CTp L n) L a1 a2 a3 b0 := by rw [← e3]; exact cg (x := ii3) (by kernel_rfl) (by kernel_rfl) L n _
def q4x0 (c : TC0) (e : Cu) : Kt := xK ii4
def q4x1 (c : TC0) (e : Cu) : Kt := xT ii4 c e [1, 1, 1] (q4x0 c e)
def q4x2 (c : TC0) (e : Cu) : Kt := eJ U0 0 (q4x1 c e)
def q4x3 (c : TC0) (e : Cu) (n1 : Nt) : Kt := lpK U0 aC1 n1 (q4x2 c e)
def B4x0 (c : TC0) (e1 : Int → List G.T → Int → Int → List G.T → Rt) (a0 : List G.T) (a1 : Int) : Rt :=
 e1 (List.length a0 : Int) a0 a1 (0 : Int) ([] : List G.T)
def V4x0 (n : Nt) : List G.T → Int → Rt := fun x0 x1 => n [yS 3 x0, yI x1]
def B4x1 (c : TC0) (k2 : Int → Int → List G.T → Int → List G.T → Rt) (a9 : Int) (a8 : List G.T) (a1 : Int) (a10 : Int) (a5 : List G.T) : Rt :=
 cnd (decide (a10 < a9)) (ob (idx a8 a10) fun v0 =>
 cnd (!decide (a10 = a1)) (obL [.rc 3] (c 19 [yR 3 v0]) fun (r1 : G.T × Unit) =>
 chk (Nat.ble ((List.length a5 + List.length ([r1.1] : List G.T)) * 176) 1073741824) <|
 k2 a10 a9 a8 a1 (a5 ++ ([r1.1] : List G.T))) (k2 a10 a9 a8 a1 a5)) (some [yS 3 a5])
def V4x1 (n : Nt) : Int → List G.T → Int → Int → List G.T → Rt := fun x0 x1 x2 x3 x4 => n [yI x0, yS 3 x1, yI x2, yI x3, yS 3 x4]
def X4x1 := V4x1 (xE ii4 e [1, 1, 0, 1, 0, 0] aC1 (q4x2 c e))
def B4x2 (c : TC0) (n1 : Int → List G.T → Int → Int → List G.T → Rt) (a10 : Int) (a9 : Int) (a8 : List G.T) (a1 : Int) (a5 : List G.T) : Rt :=
 n1 a9 a8 a1 (IntKind.i64.wrap (a10 + (1 : Int))) a5
def V4x2 (n : Nt) : Int → Int → List G.T → Int → List G.T → Rt := fun x0 x1 x2 x3 x4 => n [yI x0, yI x1, yS 3 x2, yI x3, yS 3 x4]
def X4x2 (n1 : Nt) := V4x2 (xD ii4 e [1, 1, 0, 1, 0, 0, 1, 1, 1, 0] ct4x2 (q4x3 c e n1))
theorem s4x0 : V4x0 (xF ii4 c e) = B4x0 c (X4x1 c e) := by kernel_rfl
theorem s4x1 (n1 : Nt) : V4x1 (xA ii4 c e [1, 1, 0, 1, 0, 0] aC1 (lpK U0 aC1 n1 (q4x2 c e))) = B4x1 c (X4x2 c e n1) := by kernel_rfl
theorem s4x2 (n1 : Nt) : V4x2 (xA ii4 c e [1, 1, 0, 1, 0, 0, 1, 1, 1, 0] ct4x2 (q4x3 c e n1)) = B4x2 c (V4x1 n1) := by kernel_rfl
def J4x2 (c : TC0) (L : Nat) (n1 : Int → List G.T → Int → Int → List G.T → Rt) : Int → Int → List G.T → Int → List G.T → Rt := B4x2 c n1
theorem j4x2 (n1 : Nt) : X4x2 c (cu c L) n1 = J4x2 c L (V4x1 n1) := by rw [X4x2, bN, s4x2]; rfl
def W4x1 (c : TC0) (L : Nat) : Nat → Int → List G.T → Int → Int → List G.T → Rt
 | 0 => fun _ _ _ _ _ => none
 | n + 1 => B4x1 c (J4x2 c L (W4x1 c L n))
theorem u4x1 (n : Nat) : V4x1 (xL ii4 c L [1, 1, 0, 1, 0, 0] aC1 (q4x2 c (cu c L)) n) = W4x1 c L n := by
 induction n with
 | zero => rfl
 | succ n ih => rw [iQ, s4x1]; simp only [j4x2, ih]; rfl
theorem w4x1 : X4x1 c (cu c L) = W4x1 c L L := u4x1 c L L
def F4 (c : TC0) (L : Nat) : List G.T → Int → Rt := B4x0 c (W4x1 c L L)
theorem e4 : V4x0 (xF ii4 c (cu c L)) = F4 c L := by rw [s4x0]; simp only [w4x1]; rfl
theorem c4 (a0 : List G.T) (a1 : Int) (L n : Nat) : CTp L (n + 1) 4 [yS 3 a0, yI a1] = F4 (CTp L n) L a0 a1 := by rw [← e4]; exact cg (x := ii4) (by kernel_rfl) (by kernel_rfl) L n _
def q5x0 (c : TC0) (e : Cu) : Kt := xK ii5
def q5x1 (c : TC0) (e : Cu) : Kt := xT ii5 c e [1, 1, 1] (q5x0 c e)
def q5x2 (c : TC0) (e : Cu) : Kt := eJ U0 0 (q5x1 c e)
def B5x0 (c : TC0) (k1 : Bool → Int → List G.E → Int → G.Z → G.T → G.T → Rt) (a1 : List G.E) (a2 : Int) (b0 : G.Z) : Rt :=
 obL [.rc 3, .rc 0] (c 20 [yS 15 a1, yI a2, yR 0 b0]) fun (r0 : G.T × G.Z × Unit) =>
 obL [i6, .rc 0] (c 17 [yI (8 : Int), yR 0 r0.2.1]) fun (r1 : Int × G.Z × Unit) =>
 cnd (decide (r1.1 = (0 : Int))) (k1 (decide (r1.1 = (0 : Int))) r1.1 a1 a2 r1.2.1 r0.1 (G.T.mk (0 : Int) (G.Y.mk ([] : List UInt8) ([] : List UInt8)) (G.O.mk (0 : Int) ([] : List UInt8) ([] : List UInt8) (G.Y.mk ([] : List UInt8) ([] : List UInt8)) ([] : List UInt8) ([] : List G.O)) ([] : List G.T))) (k1 (decide (r1.1 = (1 : Int))) r1.1 a1 a2 r1.2.1 r0.1 (G.T.mk (0 : Int) (G.Y.mk ([] : List UInt8) ([] : List UInt8)) (G.O.mk (0 : Int) ([] : List UInt8) ([] : List UInt8) (G.Y.mk ([] : List UInt8) ([] : List UInt8)) ([] : List UInt8) ([] : List G.O)) ([] : List G.T)))
def V5x0 (n : Nt) : List G.E → Int → G.Z → Rt := fun x0 x1 x2 => n [yS 15 x0, yI x1, yR 0 x2]
def B5x1 (c : TC0) (a14 : Bool) (a13 : Int) (a1 : List G.E) (a2 : Int) (b0 : G.Z) (b107 : G.T) (b106 : G.T) : Rt :=
 cnd a14 (obL [.rc 3] (c 12 [yT ([110, 111, 116] : List UInt8), yS 3 ([b107] : List G.T)]) fun (r0 : G.T × Unit) =>
 some [yR 3 r0.1, yR 0 b0]) (cnd (decide (a13 = (2 : Int))) (obL [.rc 3, .rc 0] (c 20 [yS 15 a1, yI (IntKind.i64.wrap (a2 - (1 : Int))), yR 0 b0]) fun (r1 : G.T × G.Z × Unit) =>
 obL [.rc 3] (c 12 [yT ([101, 113, 117, 97, 108] : List UInt8), yS 3 ([b107, r1.1] : List G.T)]) fun (r2 : G.T × Unit) =>
 obL [.rc 3] (c 12 [yT ([110, 111, 116] : List UInt8), yS 3 ([r2.1] : List G.T)]) fun (r3 : G.T × Unit) =>
 some [yR 3 r3.1, yR 0 r1.2.1]) (cnd (decide (a13 = (3 : Int))) (obL [.rc 3, .rc 0] (c 21 [yR 0 b0]) fun (r4 : G.T × G.Z × Unit) =>
 obL [.rc 3] (c 12 [yT ([99, 111, 110, 115, 112] : List UInt8), yS 3 ([r4.1] : List G.T)]) fun (r5 : G.T × Unit) =>
 obL [.rc 3] (c 12 [yT ([110, 111, 116] : List UInt8), yS 3 ([r5.1] : List G.T)]) fun (r6 : G.T × Unit) =>
 some [yR 3 r6.1, yR 0 r4.2.1]) (cnd (decide (a13 = (4 : Int))) (obL [.rc 3, .rc 0] (c 20 [yS 15 a1, yI (IntKind.i64.wrap (a2 - (1 : Int))), yR 0 b0]) fun (r7 : G.T × G.Z × Unit) =>
 obL [.rc 3] (c 12 [yT ([101, 113, 117, 97, 108] : List UInt8), yS 3 ([b107, r7.1] : List G.T)]) fun (r8 : G.T × Unit) =>
 some [yR 3 r8.1, yR 0 r7.2.1]) (cnd (decide (a13 = (5 : Int))) (obL [.rc 3, .rc 0] (c 21 [yR 0 b0]) fun (r9 : G.T × G.Z × Unit) =>
 obL [.rc 3, .rc 0] (c 20 [yS 15 a1, yI (IntKind.i64.wrap (a2 - (1 : Int))), yR 0 r9.2.1]) fun (r10 : G.T × G.Z × Unit) =>
 obL [.rc 3] (c 12 [yT ([60] : List UInt8), yS 3 ([r9.1, r10.1] : List G.T)]) fun (r11 : G.T × Unit) =>
 obL [.rc 3] (c 12 [yT ([110, 111, 116] : List UInt8), yS 3 ([r11.1] : List G.T)]) fun (r12 : G.T × Unit) =>
 some [yR 3 r12.1, yR 0 r10.2.1]) (some [yR 3 b107, yR 0 b0])))))
def V5x1 (n : Nt) : Bool → Int → List G.E → Int → G.Z → G.T → G.T → Rt := fun x0 x1 x2 x3 x4 x5 x6 => n [yB x0, yI x1, yS 15 x2, yI x3, yR 0 x4, yR 3 x5, yR 3 x6]
def X5x1 := V5x1 (xD ii5 e [1, 1, 0, 1, 0, 1, 0] ct5x1 (q5x2 c e))
theorem s5x0 : V5x0 (xF ii5 c e) = B5x0 c (X5x1 c e) := by kernel_rfl
theorem s5x1 : V5x1 (xA ii5 c e [1, 1, 0, 1, 0, 1, 0] ct5x1 (q5x2 c e)) = B5x1 c := by kernel_rfl
def J5x1 (c : TC0) (L : Nat) : Bool → Int → List G.E → Int → G.Z → G.T → G.T → Rt := B5x1 c
theorem j5x1 : X5x1 c (cu c L) = J5x1 c L := by rw [X5x1, bN, s5x1]; rfl
def F5 (c : TC0) (L : Nat) : List G.E → Int → G.Z → Rt := B5x0 c (J5x1 c L)
theorem e5 : V5x0 (xF ii5 c (cu c L)) = F5 c L := by rw [s5x0]; simp only [j5x1]; rfl
theorem c5 (a1 : List G.E) (a2 : Int) (b0 : G.Z) (L n : Nat) : CTp L (n + 1) 5 [yS 15 a1, yI a2, yR 0 b0] = F5 (CTp L n) L a1 a2 b0 := by rw [← e5]; exact cg (x := ii5) (by kernel_rfl) (by kernel_rfl) L n _
def q6x0 (c : TC0) (e : Cu) : Kt := xK ii6
def q6x1 (c : TC0) (e : Cu) : Kt := xT ii6 c e [1, 1, 1] (q6x0 c e)
def q6x2 (c : TC0) (e : Cu) : Kt := eJ U0 0 (q6x1 c e)
def q6x3 (c : TC0) (e : Cu) (n1 : Nt) : Kt := lpK U0 aC0 n1 (q6x2 c e)
def B6x0 (c : TC0) (e1 : Int → List G.T → Int → List G.T → Rt) (a0 : List G.T) (a1 : Int) : Rt :=
 e1 a1 a0 (0 : Int) ([] : List G.T)
def V6x0 (n : Nt) : List G.T → Int → Rt := fun x0 x1 => n [yS 3 x0, yI x1]
def B6x1 (c : TC0) (k2 : Int → Int → List G.T → List G.T → Rt) (a1 : Int) (a0 : List G.T) (a6 : Int) (a5 : List G.T) : Rt :=
 cnd (decide (a6 < (List.length a0 : Int))) (cnd (!decide (a6 = a1)) (ob (idx a0 a6) fun v0 =>
 obL [.rc 3] (c 22 [yR 3 v0]) fun (r1 : G.T × Unit) =>
 chk (Nat.ble ((List.length a5 + List.length ([r1.1] : List G.T)) * 176) 1073741824) <|
 k2 a6 a1 a0 (a5 ++ ([r1.1] : List G.T))) (k2 a6 a1 a0 a5)) (some [yS 3 a5])
def V6x1 (n : Nt) : Int → List G.T → Int → List G.T → Rt := fun x0 x1 x2 x3 => n [yI x0, yS 3 x1, yI x2, yS 3 x3]
def X6x1 := V6x1 (xE ii6 e [1, 1, 0, 1, 0, 0] aC0 (q6x2 c e))
def B6x2 (c : TC0) (n1 : Int → List G.T → Int → List G.T → Rt) (a6 : Int) (a1 : Int) (a0 : List G.T) (a5 : List G.T) : Rt :=
 n1 a1 a0 (IntKind.i64.wrap (a6 + (1 : Int))) a5
def V6x2 (n : Nt) : Int → Int → List G.T → List G.T → Rt := fun x0 x1 x2 x3 => n [yI x0, yI x1, yS 3 x2, yS 3 x3]
def X6x2 (n1 : Nt) := V6x2 (xD ii6 e [1, 1, 0, 1, 0, 0, 1, 1, 0] ct6x2 (q6x3 c e n1))
theorem s6x0 : V6x0 (xF ii6 c e) = B6x0 c (X6x1 c e) := by kernel_rfl
theorem s6x1 (n1 : Nt) : V6x1 (xA ii6 c e [1, 1, 0, 1, 0, 0] aC0 (lpK U0 aC0 n1 (q6x2 c e))) = B6x1 c (X6x2 c e n1) := by kernel_rfl
theorem s6x2 (n1 : Nt) : V6x2 (xA ii6 c e [1, 1, 0, 1, 0, 0, 1, 1, 0] ct6x2 (q6x3 c e n1)) = B6x2 c (V6x1 n1) := by kernel_rfl
def J6x2 (c : TC0) (L : Nat) (n1 : Int → List G.T → Int → List G.T → Rt) : Int → Int → List G.T → List G.T → Rt := B6x2 c n1
theorem j6x2 (n1 : Nt) : X6x2 c (cu c L) n1 = J6x2 c L (V6x1 n1) := by rw [X6x2, bN, s6x2]; rfl
def W6x1 (c : TC0) (L : Nat) : Nat → Int → List G.T → Int → List G.T → Rt
 | 0 => fun _ _ _ _ => none
 | n + 1 => B6x1 c (J6x2 c L (W6x1 c L n))
theorem u6x1 (n : Nat) : V6x1 (xL ii6 c L [1, 1, 0, 1, 0, 0] aC0 (q6x2 c (cu c L)) n) = W6x1 c L n := by
 induction n with
 | zero => rfl
 | succ n ih => rw [iQ, s6x1]; simp only [j6x2, ih]; rfl
theorem w6x1 : X6x1 c (cu c L) = W6x1 c L L := u6x1 c L L
def F6 (c : TC0) (L : Nat) : List G.T → Int → Rt := B6x0 c (W6x1 c L L)
theorem e6 : V6x0 (xF ii6 c (cu c L)) = F6 c L := by rw [s6x0]; simp only [w6x1]; rfl
theorem c6 (a0 : List G.T) (a1 : Int) (L n : Nat) : CTp L (n + 1) 6 [yS 3 a0, yI a1] = F6 (CTp L n) L a0 a1 := by rw [← e6]; exact cg (x := ii6) (by kernel_rfl) (by kernel_rfl) L n _
def q7x0 (c : TC0) (e : Cu) : Kt := xK ii7
def q7x1 (c : TC0) (e : Cu) : Kt := xT ii7 c e [1, 1, 1] (q7x0 c e)
def q7x2 (c : TC0) (e : Cu) : Kt := eJ U0 0 (q7x1 c e)
def B7x0 (c : TC0) (e1 : List G.T → List G.T → Int → Rt) (a0 : List G.T) (a1 : List G.T) : Rt :=
 cnd (!decide ((List.length a0 : Int) = (List.length a1 : Int))) (some [yB false]) (e1 a0 a1 (0 : Int))
def V7x0 (n : Nt) : List G.T → List G.T → Rt := fun x0 x1 => n [yS 3 x0, yS 3 x1]
def B7x1 (c : TC0) (n1 : List G.T → List G.T → Int → Rt) (a0 : List G.T) (a1 : List G.T) (a5 : Int) : Rt :=
 cnd (decide (a5 < (List.length a0 : Int))) (ob (idx a0 a5) fun v0 =>
 ob (idx a1 a5) fun v1 =>
 obL [.bool] (c 23 [yR 3 v0, yR 3 v1]) fun (r2 : Bool × Unit) =>
 cnd (!r2.1) (some [yB false]) (n1 a0 a1 (IntKind.i64.wrap (a5 + (1 : Int))))) (some [yB true])
def V7x1 (n : Nt) : List G.T → List G.T → Int → Rt := fun x0 x1 x2 => n [yS 3 x0, yS 3 x1, yI x2]
def X7x1 := V7x1 (xE ii7 e [1, 1, 0, 1, 0, 0] aFv (q7x2 c e))
theorem s7x0 : V7x0 (xF ii7 c e) = B7x0 c (X7x1 c e) := by kernel_rfl
theorem s7x1 (n1 : Nt) : V7x1 (xA ii7 c e [1, 1, 0, 1, 0, 0] aFv (lpK U0 aFv n1 (q7x2 c e))) = B7x1 c (V7x1 n1) := by kernel_rfl
def W7x1 (c : TC0) (L : Nat) : Nat → List G.T → List G.T → Int → Rt
 | 0 => fun _ _ _ => none
 | n + 1 => B7x1 c (W7x1 c L n)
theorem u7x1 (n : Nat) : V7x1 (xL ii7 c L [1, 1, 0, 1, 0, 0] aFv (q7x2 c (cu c L)) n) = W7x1 c L n := by
 induction n with
 | zero => rfl
 | succ n ih => rw [iQ, s7x1]; simp only [ih]; rfl
theorem w7x1 : X7x1 c (cu c L) = W7x1 c L L := u7x1 c L L
def F7 (c : TC0) (L : Nat) : List G.T → List G.T → Rt := B7x0 c (W7x1 c L L)
theorem e7 : V7x0 (xF ii7 c (cu c L)) = F7 c L := by rw [s7x0]; simp only [w7x1]; rfl
theorem c7 (a0 : List G.T) (a1 : List G.T) (L n : Nat) : CTp L (n + 1) 7 [yS 3 a0, yS 3 a1] = F7 (CTp L n) L a0 a1 := by rw [← e7]; exact cg (x := ii7) (by kernel_rfl) (by kernel_rfl) L n _
def q8x0 (c : TC0) (e : Cu) : Kt := xK ii8
def q8x1 (c : TC0) (e : Cu) : Kt := xT ii8 c e [1, 1, 1] (q8x0 c e)
def q8x2 (c : TC0) (e : Cu) : Kt := eJ U0 0 (q8x1 c e)
def B8x0 (c : TC0) (e1 : Int → List G.T → Int → List G.T → G.T → Rt) (a0 : List G.T) (a1 : G.T) : Rt :=
 e1 (List.length a0 : Int) a0 (0 : Int) ([] : List G.T) a1
def V8x0 (n : Nt) : List G.T → G.T → Rt := fun x0 x1 => n [yS 3 x0, yR 3 x1]
def B8x1 (c : TC0) (n1 : Int → List G.T → Int → List G.T → G.T → Rt) (a9 : Int) (a8 : List G.T) (a10 : Int) (a5 : List G.T) (b103 : G.T) : Rt :=
 cnd (decide (a10 < a9)) (ob (idx a8 a10) fun v0 =>
 obL [.rc 3] (c 19 [yR 3 v0]) fun (r1 : G.T × Unit) =>
 obL [zS 3] (c 24 [yS 3 a5, yS 3 ([r1.1] : List G.T)]) fun (r2 : List G.T × Unit) =>
 n1 a9 a8 (IntKind.i64.wrap (a10 + (1 : Int))) r2.1 b103) (obL [zS 3] (c 24 [yS 3 a5, yS 3 ([b103] : List G.T)]) fun (r3 : List G.T × Unit) =>
 some [yS 3 r3.1])
def V8x1 (n : Nt) : Int → List G.T → Int → List G.T → G.T → Rt := fun x0 x1 x2 x3 x4 => n [yI x0, yS 3 x1, yI x2, yS 3 x3, yR 3 x4]
def X8x1 := V8x1 (xE ii8 e [1, 1, 0, 1, 0, 0] aFt (q8x2 c e))
theorem s8x0 : V8x0 (xF ii8 c e) = B8x0 c (X8x1 c e) := by kernel_rfl
theorem s8x1 (n1 : Nt) : V8x1 (xA ii8 c e [1, 1, 0, 1, 0, 0] aFt (lpK U0 aFt n1 (q8x2 c e))) = B8x1 c (V8x1 n1) := by kernel_rfl
def W8x1 (c : TC0) (L : Nat) : Nat → Int → List G.T → Int → List G.T → G.T → Rt
 | 0 => fun _ _ _ _ _ => none
 | n + 1 => B8x1 c (W8x1 c L n)
theorem u8x1 (n : Nat) : V8x1 (xL ii8 c L [1, 1, 0, 1, 0, 0] aFt (q8x2 c (cu c L)) n) = W8x1 c L n := by
 induction n with
 | zero => rfl
 | succ n ih => rw [iQ, s8x1]; simp only [ih]; rfl
theorem w8x1 : X8x1 c (cu c L) = W8x1 c L L := u8x1 c L L
def F8 (c : TC0) (L : Nat) : List G.T → G.T → Rt := B8x0 c (W8x1 c L L)
theorem e8 : V8x0 (xF ii8 c (cu c L)) = F8 c L := by rw [s8x0]; simp only [w8x1]; rfl
theorem c8 (a0 : List G.T) (a1 : G.T) (L n : Nat) : CTp L (n + 1) 8 [yS 3 a0, yR 3 a1] = F8 (CTp L n) L a0 a1 := by rw [← e8]; exact cg (x := ii8) (by kernel_rfl) (by kernel_rfl) L n _
def q9x0 (c : TC0) (e : Cu) : Kt := xK ii9
def q9x1 (c : TC0) (e : Cu) : Kt := xT ii9 c e [1, 1, 1] (q9x0 c e)
def q9x2 (c : TC0) (e : Cu) : Kt := eJ U0 0 (q9x1 c e)
def B9x0 (c : TC0) (e1 : List G.T → Int → List G.T → G.T → Rt) (a0 : List G.T) (a1 : G.T) : Rt :=
 e1 a0 (0 : Int) ([] : List G.T) a1
def V9x0 (n : Nt) : List G.T → G.T → Rt := fun x0 x1 => n [yS 3 x0, yR 3 x1]
def B9x1 (c : TC0) (n1 : List G.T → Int → List G.T → G.T → Rt) (a0 : List G.T) (a6 : Int) (a5 : List G.T) (b103 : G.T) : Rt :=
 cnd (decide (a6 < (List.length a0 : Int))) (ob (idx a0 a6) fun v0 =>
 obL [.rc 3] (c 22 [yR 3 v0]) fun (r1 : G.T × Unit) =>
 obL [zS 3] (c 18 [yS 3 a5, yS 3 ([r1.1] : List G.T)]) fun (r2 : List G.T × Unit) =>
 n1 a0 (IntKind.i64.wrap (a6 + (1 : Int))) r2.1 b103) (obL [zS 3] (c 18 [yS 3 a5, yS 3 ([b103] : List G.T)]) fun (r3 : List G.T × Unit) =>
 some [yS 3 r3.1])
def V9x1 (n : Nt) : List G.T → Int → List G.T → G.T → Rt := fun x0 x1 x2 x3 => n [yS 3 x0, yI x1, yS 3 x2, yR 3 x3]
def X9x1 := V9x1 (xE ii9 e [1, 1, 0, 1, 0, 0] aFi (q9x2 c e))
theorem s9x0 : V9x0 (xF ii9 c e) = B9x0 c (X9x1 c e) := by kernel_rfl
theorem s9x1 (n1 : Nt) : V9x1 (xA ii9 c e [1, 1, 0, 1, 0, 0] aFi (lpK U0 aFi n1 (q9x2 c e))) = B9x1 c (V9x1 n1) := by kernel_rfl
def W9x1 (c : TC0) (L : Nat) : Nat → List G.T → Int → List G.T → G.T → Rt
 | 0 => fun _ _ _ _ => none
 | n + 1 => B9x1 c (W9x1 c L n)
theorem u9x1 (n : Nat) : V9x1 (xL ii9 c L [1, 1, 0, 1, 0, 0] aFi (q9x2 c (cu c L)) n) = W9x1 c L n := by
 induction n with
 | zero => rfl
 | succ n ih => rw [iQ, s9x1]; simp only [ih]; rfl
theorem w9x1 : X9x1 c (cu c L) = W9x1 c L L := u9x1 c L L
def F9 (c : TC0) (L : Nat) : List G.T → G.T → Rt := B9x0 c (W9x1 c L L)
theorem e9 : V9x0 (xF ii9 c (cu c L)) = F9 c L := by rw [s9x0]; simp only [w9x1]; rfl
theorem c9 (a0 : List G.T) (a1 : G.T) (L n : Nat) : CTp L (n + 1) 9 [yS 3 a0, yR 3 a1] = F9 (CTp L n) L a0 a1 := by rw [← e9]; exact cg (x := ii9) (by kernel_rfl) (by kernel_rfl) L n _
def B10x0 (c : TC0) (a0 : List G.T) (a1 : List G.T) : Rt :=
 obL [.bool] (c 7 [yS 3 a0, yS 3 a1]) fun (r0 : Bool × Unit) =>
 some [yB r0.1]
def V10x0 (n : Nt) : List G.T → List G.T → Rt := fun x0 x1 => n [yS 3 x0, yS 3 x1]
theorem s10x0 : V10x0 (xF ii10 c e) = B10x0 c := by kernel_rfl
def F10 (c : TC0) (L : Nat) : List G.T → List G.T → Rt := B10x0 c
theorem e10 : V10x0 (xF ii10 c (cu c L)) = F10 c L := s10x0 _ _
theorem c10 (a0 : List G.T) (a1 : List G.T) (L n : Nat) : CTp L (n + 1) 10 [yS 3 a0, yS 3 a1] = F10 (CTp L n) L a0 a1 := by rw [← e10]; exact cg (x := ii10) (by kernel_rfl) (by kernel_rfl) L n _
def q13x0 (c : TC0) (e : Cu) : Kt := xK ii13
def q13x1 (c : TC0) (e : Cu) : Kt := xT ii13 c e [1, 1, 1, 1] (q13x0 c e)
def q13x2 (c : TC0) (e : Cu) : Kt := eJ U0 0 (q13x1 c e)
def B13x0 (c : TC0) (e1 : List G.O → Int → List G.E → Rt) : Rt :=
 obL [zS 2] (c 27 []) fun (r0 : List G.O × Unit) =>
 e1 r0.1 (0 : Int) ([] : List G.E)
def V13x0 (n : Nt) : Rt := n []
def aDl (c : TC0) (n1 : List G.O → Int → List G.E → Rt) (a2 : List G.O) (a3 : Int) (a1 : List G.E) : Rt :=
 cnd (decide (a3 < (List.length a2 : Int))) (ob (idx a2 a3) fun v0 =>
 obL [.rc 15] (c 28 [yS 15 a1, yR 2 v0]) fun (r1 : G.E × Unit) =>
 chk (Nat.ble ((List.length a1 + List.length ([r1.1] : List G.E)) * 568) 1073741824) <|
 n1 a2 (IntKind.i64.wrap (a3 + (1 : Int))) (a1 ++ ([r1.1] : List G.E))) (obL [.rc 1] (c 29 [yT ([117, 115, 101, 114, 45, 112, 97, 99, 107, 97, 103, 101] : List UInt8)]) fun (r2 : G.Y × Unit) =>
 obL [zS 1] (c 30 []) fun (r3 : List G.Y × Unit) =>
 chk (Nat.ble ((List.length a1 + List.length ([(G.E.mk (1 : Int) r2.1 (G.A.mk ([117, 115, 101, 114] : List UInt8) r3.1) (G.M.mk (G.Y.mk ([] : List UInt8) ([] : List UInt8)) ([] : List G.Y) false (G.T.mk (0 : Int) (G.Y.mk ([] : List UInt8) ([] : List UInt8)) (G.O.mk (0 : Int) ([] : List UInt8) ([] : List UInt8) (G.Y.mk ([] : List UInt8) ([] : List UInt8)) ([] : List UInt8) ([] : List G.O)) ([] : List G.T))) ([] : List G.F) ([] : List G.T) ([] : List (List G.N)) ([] : List G.E) (G.B.mk (G.Y.mk ([] : List UInt8) ([] : List UInt8)) ([] : List G.D)) ([] : List G.U) ([] : List G.Y) ([] : List G.Y) ([] : List UInt8) (0 : Int))] : List G.E)) * 568) 1073741824) <|
 some [yS 15 (a1 ++ ([(G.E.mk (1 : Int) r2.1 (G.A.mk ([117, 115, 101, 114] : List UInt8) r3.1) (G.M.mk (G.Y.mk ([] : List UInt8) ([] : List UInt8)) ([] : List G.Y) false (G.T.mk (0 : Int) (G.Y.mk ([] : List UInt8) ([] : List UInt8)) (G.O.mk (0 : Int) ([] : List UInt8) ([] : List UInt8) (G.Y.mk ([] : List UInt8) ([] : List UInt8)) ([] : List UInt8) ([] : List G.O)) ([] : List G.T))) ([] : List G.F) ([] : List G.T) ([] : List (List G.N)) ([] : List G.E) (G.B.mk (G.Y.mk ([] : List UInt8) ([] : List UInt8)) ([] : List G.D)) ([] : List G.U) ([] : List G.Y) ([] : List G.Y) ([] : List UInt8) (0 : Int))] : List G.E))])
def V13x1 (n : Nt) : List G.O → Int → List G.E → Rt := fun x0 x1 x2 => n [yS 2 x0, yI x1, yS 15 x2]
def X13x1 := V13x1 (xE ii13 e [1, 1, 1, 0, 1, 0, 0] xN (q13x2 c e))
theorem s13x0 : V13x0 (xF ii13 c e) = B13x0 c (X13x1 c e) := by kernel_rfl
theorem s13x1 (n1 : Nt) : V13x1 (xA ii13 c e [1, 1, 1, 0, 1, 0, 0] xN (lpK U0 xN n1 (q13x2 c e))) = aDl c (V13x1 n1) := by kernel_rfl
def oK (c : TC0) (L : Nat) : Nat → List G.O → Int → List G.E → Rt
 | 0 => fun _ _ _ => none
 | n + 1 => aDl c (oK c L n)
theorem u13x1 (n : Nat) : V13x1 (xL ii13 c L [1, 1, 1, 0, 1, 0, 0] xN (q13x2 c (cu c L)) n) = oK c L n := by
 induction n with
 | zero => rfl
 | succ n ih => rw [iQ, s13x1]; simp only [ih]; rfl
theorem w13x1 : X13x1 c (cu c L) = oK c L L := u13x1 c L L
def F13 (c : TC0) (L : Nat) : Rt := B13x0 c (oK c L L)
theorem e13 : V13x0 (xF ii13 c (cu c L)) = F13 c L := by rw [s13x0]; simp only [w13x1]; rfl
theorem c13 (L n : Nat) : CTp L (n + 1) 13 [] = F13 (CTp L n) L := by rw [← e13]; exact cg (x := ii13) (by kernel_rfl) (by kernel_rfl) L n _
def q17x0 (c : TC0) (e : Cu) : Kt := xK ii17
def q17x1 (c : TC0) (e : Cu) : Kt := xT ii17 c e [1, 1] (q17x0 c e)
def B17x0 (c : TC0) (k1 : Bool → Int → G.Z → Rt) (a1 : Int) (b0 : G.Z) : Rt :=
 cnd (decide ((List.length b0.b : Int) ≤ b0.pos)) (k1 true a1 b0) (k1 (decide (a1 < (1 : Int))) a1 b0)
def V17x0 (n : Nt) : Int → G.Z → Rt := fun x0 x1 => n [yI x0, yR 0 x1]
def B17x1 (c : TC0) (a18 : Bool) (a1 : Int) (b0 : G.Z) : Rt :=
 cnd a18 (some [yI (0 : Int), yR 0 b0]) (ob (idx b0.b (IntKind.i64.wrap ((IntKind.i64.wrap (b0.pos + (1 : Int))) - (1 : Int)))) fun v0 =>
 chk (!decide (a1 = 0)) <|
 some [yI (Int.tmod (IntKind.i64.wrap v0) a1), yR 0 (G.Z.mk b0.b (IntKind.i64.wrap (b0.pos + (1 : Int))))])
def V17x1 (n : Nt) : Bool → Int → G.Z → Rt := fun x0 x1 x2 => n [yB x0, yI x1, yR 0 x2]
def X17x1 := V17x1 (xD ii17 e [1, 0, 1, 0] aFO (q17x1 c e))
theorem s17x0 : V17x0 (xF ii17 c e) = B17x0 c (X17x1 c e) := by kernel_rfl
theorem s17x1 : V17x1 (xA ii17 c e [1, 0, 1, 0] aFO (q17x1 c e)) = B17x1 c := by kernel_rfl
def J17x1 (c : TC0) (L : Nat) : Bool → Int → G.Z → Rt := B17x1 c
theorem j17x1 : X17x1 c (cu c L) = J17x1 c L := by rw [X17x1, bN, s17x1]; rfl
def F17 (c : TC0) (L : Nat) : Int → G.Z → Rt := B17x0 c (J17x1 c L)
theorem e17 : V17x0 (xF ii17 c (cu c L)) = F17 c L := by rw [s17x0]; simp only [j17x1]; rfl
theorem c17 (a1 : Int) (b0 : G.Z) (L n : Nat) : CTp L (n + 1) 17 [yI a1, yR 0 b0] = F17 (CTp L n) L a1 b0 := by rw [← e17]; exact cg (x := ii17) (by kernel_rfl) (by kernel_rfl) L n _
def q18x0 (c : TC0) (e : Cu) : Kt := xK aE1
def q18x1 (c : TC0) (e : Cu) : Kt := xT aE1 c e [1, 1, 1] (q18x0 c e)
def q18x2 (c : TC0) (e : Cu) : Kt := eJ U0 0 (q18x1 c e)
def q18x3 (c : TC0) (e : Cu) (n1 : Nt) : Kt := lpK U0 sM n1 (q18x2 c e)
def B18x0 (c : TC0) (e1 : List G.T → Int → List G.T → Rt) (a0 : List G.T) (a1 : List G.T) : Rt :=
 chk (decide (0 ≤ (0 : Int)) && decide ((0 : Int) ≤ (IntKind.i64.wrap ((List.length a0 : Int) + (List.length a1 : Int)))) && decide ((IntKind.i64.wrap ((List.length a0 : Int) + (List.length a1 : Int))) * (176 : Int) ≤ 1073741824) && decide ((IntKind.i64.wrap ((List.length a0 : Int) + (List.length a1 : Int))) ≤ 1073741824)) <|
 chk (decide ((0 : Int) = 0)) <|
 chk (Nat.ble ((List.length ([] : List G.T) + List.length a0) * 176) 1073741824) <|
 e1 a1 (0 : Int) (([] : List G.T) ++ a0)
def V18x0 (n : Nt) : List G.T → List G.T → Rt := fun x0 x1 => n [yS 3 x0, yS 3 x1]
def B18x1 (c : TC0) (k2 : Int → List G.T → List G.T → Rt) (a1 : List G.T) (a6 : Int) (a5 : List G.T) : Rt :=
 cnd (decide (a6 < (List.length a1 : Int))) (ob (idx a1 a6) fun v0 =>
 obL [.bool] (c 41 [yS 3 a5, yR 3 v0]) fun (r1 : Bool × Unit) =>
 cnd (!r1.1) (ob (idx a1 a6) fun v2 =>
 chk (Nat.ble ((List.length a5 + List.length ([v2] : List G.T)) * 176) 1073741824) <|
 k2 a6 a1 (a5 ++ ([v2] : List G.T))) (k2 a6 a1 a5)) (some [yS 3 a5])
def aGx (n : Nt) : List G.T → Int → List G.T → Rt := fun x0 x1 x2 => n [yS 3 x0, yI x1, yS 3 x2]
def X18x1 := aGx (xE aE1 e [1, 1, 0, 1, 0, 0] sM (q18x2 c e))
def B18x2 (c : TC0) (n1 : List G.T → Int → List G.T → Rt) (a6 : Int) (a1 : List G.T) (a5 : List G.T) : Rt :=
 n1 a1 (IntKind.i64.wrap (a6 + (1 : Int))) a5
def V18x2 (n : Nt) : Int → List G.T → List G.T → Rt := fun x0 x1 x2 => n [yI x0, yS 3 x1, yS 3 x2]
def X18x2 (n1 : Nt) := V18x2 (xD aE1 e [1, 1, 0, 1, 0, 0, 1, 1, 0] aFN (q18x3 c e n1))
theorem s18x0 : V18x0 (xF aE1 c e) = B18x0 c (X18x1 c e) := by kernel_rfl
theorem s18x1 (n1 : Nt) : aGx (xA aE1 c e [1, 1, 0, 1, 0, 0] sM (lpK U0 sM n1 (q18x2 c e))) = B18x1 c (X18x2 c e n1) := by kernel_rfl
theorem s18x2 (n1 : Nt) : V18x2 (xA aE1 c e [1, 1, 0, 1, 0, 0, 1, 1, 0] aFN (q18x3 c e n1)) = B18x2 c (aGx n1) := by kernel_rfl
def aDj (c : TC0) (L : Nat) (n1 : List G.T → Int → List G.T → Rt) : Int → List G.T → List G.T → Rt := B18x2 c n1
theorem j18x2 (n1 : Nt) : X18x2 c (cu c L) n1 = aDj c L (aGx n1) := by rw [X18x2, bN, s18x2]; rfl
def rG (c : TC0) (L : Nat) : Nat → List G.T → Int → List G.T → Rt
 | 0 => fun _ _ _ => none
 | n + 1 => B18x1 c (aDj c L (rG c L n))
theorem u18x1 (n : Nat) : aGx (xL aE1 c L [1, 1, 0, 1, 0, 0] sM (q18x2 c (cu c L)) n) = rG c L n := by
 induction n with
 | zero => rfl
 | succ n ih => rw [iQ, s18x1]; simp only [j18x2, ih]; rfl
theorem w18x1 : X18x1 c (cu c L) = rG c L L := u18x1 c L L
def F18 (c : TC0) (L : Nat) : List G.T → List G.T → Rt := B18x0 c (rG c L L)
theorem e18 : V18x0 (xF aE1 c (cu c L)) = F18 c L := by rw [s18x0]; simp only [w18x1]; rfl
theorem c18 (a0 : List G.T) (a1 : List G.T) (L n : Nat) : CTp L (n + 1) 18 [yS 3 a0, yS 3 a1] = F18 (CTp L n) L a0 a1 := by rw [← e18]; exact cg (x := aE1) (by kernel_rfl) (by kernel_rfl) L n _
end
end Go.TV
namespace Go.TV
open Go.AI Go.PI Go.Proofs
theorem rA {β : Type} {b : List G.T} {K : List G.T × Unit → Option β} : obL (D := U0.D) [.sl (.rc 3)] (some [yS 3 b]) K = K (b, ()) := rfl
theorem qF {β : Type} {A : Option β} : chk true A = A := rfl
theorem wrapn {k : Nat} (h : k < 4000000000000000000) : IntKind.i64.wrap (k : Int) = (k : Int) := by
 unfold IntKind.wrap;simp [IntKind.bits, IntKind.signed];omega
theorem Con_loop {c : TC0} {L : Nat} {t : G.T} {a : List G.T} (hb : a.length < 1000000000) : ∀ (l : List G.T) (k m : Nat), a.drop k = l → l.length < m →
    (∀ x, x ∈ l → c 23 (tt2 x t) = some (bb (decide (x = t)))) → aAM c L m a (k : Int) t = some (bb (decide (t ∈ l))) := by
 intro l;induction l with
 | nil =>
  intro k m h1 h3 _;obtain ⟨m, rfl⟩ : ∃ m', m = m' + 1 := ⟨m - 1, by simp at h3; omega⟩
  have e1 := bE h1;have e3 : decide ((k : Int) < (a.length : Int)) = false := by simp; omega
  rw [aAM, B41x1, e3, aJ]; simp [bb]
 | cons x l ih =>
  intro k m h1 h3 hc;obtain ⟨m, rfl⟩ : ∃ m', m = m' + 1 := ⟨m - 1, by simp at h3; omega⟩
  obtain ⟨a1, a2, a3⟩ := bD h1;have e3 : decide ((k : Int) < (a.length : Int)) = true := by simp; omega
  have hxy : c 23 [yR 3 x, yR 3 t] = some [yB (decide (x = t))] := hc x (mhE ..);rw [aAM, B41x1, e3, aW, aM, a1, eR, hxy, fE, dQ (by omega)]
  by_cases e : x = t
  ·subst e; simp [cnd, bb]
  ·have e' : ¬ t = x := fun h => e h.symm
   simp only [e, decide_false, aJ];rw [ih (k + 1) m a3 (by simp at h3; omega) fun z hz => hc z (mtE _ hz)]
   simp [e']
def lt2 (a : List G.T) (t : G.T) : TVs := [yS 3 a, yR 3 t]
theorem Con_ok {a : List G.T} {t : G.T} {L n : Nat} (hw : cP a < 1000000000) (hL : cP a < L) (hn : cP a < n) : CTp L n 41 (lt2 a t) = some (bb (decide (t ∈ a))) := by
 have hlen := fA a;obtain ⟨n, rfl⟩ : ∃ n', n = n' + 1 := ⟨n - 1, by omega⟩
 show CTp L (n + 1) 41 [yS 3 _, yR 3 _] = _;rw [c41];exact Con_loop (by omega) a 0 L rfl (by omega) fun x hx => EqT_ok x (by have := dY hx; simp only [wfT]; omega) t L n (by have := dY hx; omega) (by have := dY hx; omega)
end Go.TV
namespace Go.TV
open Go.AI Go.PI Go.Proofs
def kS : List UInt8 := [108, 105, 115, 112]
def isA (t : G.T) (s : List UInt8) (k : Int) : Bool := decide (t.kind = 3) && decide (t.name = ⟨kS, s⟩) && decide ((t.args.length : Int) = k)
def tsi (t : G.T) (s : List UInt8) (k : Int) : TVs := [yR 3 t, yT s, yI k]
theorem obL_y {β : Type} {b : G.Y} {K : G.Y × Unit → Option β} : obL (D := U0.D) [.rc 1] (some [yR 1 b]) K = K (b, ()) := rfl
theorem aEH {β : Type} {b : Bool} {t : G.T} {K : Bool × G.T × Unit → Option β} : obL (D := U0.D) [.bool, .rc 3] (some [yB b, yR 3 t]) K = K (b, t, ()) := rfl
theorem aGC {s : List UInt8} {L n : Nat} : CTp L (n + 1) 29 [yT s] = some [yR 1 (⟨kS, s⟩ : G.Y)] := by
 rw [c29]; rfl
theorem Is_ok {t : G.T} {s : List UInt8} {k : Int} {L n : Nat} : CTp L (n + 2) 50 (tsi t s k) = some (bb (isA t s k)) := by
 show CTp L (n + 1 + 1) 50 [yR 3 _, yT _, yI _] = _;rw [c50, F50, B50x0, aGC, obL_y];simp only [J50x1, B50x1, isA];by_cases e1 : t.kind = 3
 ·by_cases e2 : t.name = ⟨kS, s⟩
  ·simp [e1, e2, cnd, bb]
  ·simp [e1, e2, cnd, bb]
 ·simp [e1, cnd, bb]
end Go.TV
