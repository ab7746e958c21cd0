import Derived.Test.YtbggbjpobkkbaaaGreatDoorKq
import Derived.Test.YtbggbjpobkkbaaaGreatDoorKy
import Derived.Test.YtbggbjpobkkbaaaGreatDoorKx
set_option linter.unusedVariables false
set_option linter.unusedSimpArgs false
set_option linter.constructorNameAsVariable false
namespace Go.TV
open Go.AI Go.PI Go.Proofs
set_option maxRecDepth 20000
noncomputable section
variable (c : TC0) (e : Cu) (L : Nat)
def q99x0 (c : TC0) (e : Cu) : Kt := xK uK
def q99x1 (c : TC0) (e : Cu) : Kt := xT uK c e [1, 1, 1, 1] (q99x0 c e)
def q99x2 (c : TC0) (e : Cu) : Kt := dW U0 0 (q99x1 c e)
def q99x3 (c : TC0) (e : Cu) (n1 : Nt) : Kt := lpK U0 rU n1 (q99x2 c e)
def q99x4 (c : TC0) (e : Cu) (n1 : Nt) : Kt := dW U0 1 (q99x3 c e n1)
def q99x5 (c : TC0) (e : Cu) (n1 : Nt) : Kt := xT uK c e [1, 1, 1, 0, 0, 0, 1, 0, 1] (q99x4 c e n1)
def q99x6 (c : TC0) (e : Cu) : Kt := xT uK c e [1, 1, 1, 1, 0, 1, 1] (q99x0 c e)
def q99x7 (c : TC0) (e : Cu) : Kt := dW U0 3 (q99x6 c e)
def B99x0 (c : TC0) (e1 : Int → List G.O → G.P → G.O → G.O → G.X → Rt) (a1 : Int) (b0 : G.P) : Rt :=
 obL [.rc 2] (c 33 []) fun (r0 : G.O × Unit) =>
 e1 a1 ([] : List G.O) b0 r0.1 (G.O.mk (0 : Int) ([] : List UInt8) ([] : List UInt8) (G.Y.mk ([] : List UInt8) ([] : List UInt8)) ([] : List UInt8) ([] : List G.O)) (G.X.mk (0 : Int) (0 : Int))
def V99x0 (n : Nt) : Int → G.P → Rt := fun x0 x1 => n [yI x0, yR 20 x1]
def B99x1 (c : TC0) (k2 : Bool → List G.O → Int → G.P → G.O → G.O → G.X → Rt) (k3 : List G.O → G.P → G.O → G.O → G.X → Rt) (a1 : Int) (a6 : List G.O) (b0 : G.P) (b107 : G.O) (b104 : G.O) (b105 : G.X) : Rt :=
 ob (idx b0.t b0.pos) fun v0 =>
 cnd (!decide (v0.kind = (2 : Int))) (ob (idx b0.t b0.pos) fun v1 =>
 cnd (decide (v1.kind = (3 : Int))) (k2 (decide ((0 : Int) < (List.length a6 : Int))) a6 a1 b0 b107 b104 b105) (k2 false a6 a1 b0 b107 b104 b105)) (k3 a6 b0 b107 b104 b105)
def aGj (n : Nt) : Int → List G.O → G.P → G.O → G.O → G.X → Rt := fun x0 x1 x2 x3 x4 x5 => n [yI x0, yS 2 x1, yR 20 x2, yR 2 x3, yR 2 x4, yR 18 x5]
def X99x1 := aGj (xE uK e [1, 1, 1, 0, 0, 0] rU (q99x2 c e))
def B99x2 (c : TC0) (k3 : List G.O → G.P → G.O → G.O → G.X → Rt) (n1 : Int → List G.O → G.P → G.O → G.O → G.X → Rt) (a43 : Bool) (a6 : List G.O) (a1 : Int) (b0 : G.P) (b107 : G.O) (b104 : G.O) (b105 : G.X) : Rt :=
 cnd a43 (obL [.rc 2, .rc 18, .rc 20] (c 82 [yI a1, yR 20 (G.P.mk b0.l b0.current b0.t (IntKind.i64.wrap (b0.pos + (1 : Int))))]) fun (r0 : G.O × G.X × G.P × Unit) =>
 cnd (!decide (r0.2.1.err = (0 : Int))) (some [yR 2 (G.O.mk (0 : Int) ([] : List UInt8) ([] : List UInt8) (G.Y.mk ([] : List UInt8) ([] : List UInt8)) ([] : List UInt8) ([] : List G.O)), yR 18 r0.2.1, yR 20 r0.2.2.1]) (ob (idx r0.2.2.1.t r0.2.2.1.pos) fun v1 =>
 cnd (decide (v1.kind = (2 : Int))) (k3 a6 r0.2.2.1 r0.1 b104 b105) (cnd (decide (v1.kind = (0 : Int))) (obL [.rc 18] (c 81 [yI (11 : Int), yI v1.pos]) fun (r2 : G.X × Unit) =>
 some [yR 2 (G.O.mk (0 : Int) ([] : List UInt8) ([] : List UInt8) (G.Y.mk ([] : List UInt8) ([] : List UInt8)) ([] : List UInt8) ([] : List G.O)), yR 18 r2.1, yR 20 r0.2.2.1]) (obL [.rc 18] (c 81 [yI (12 : Int), yI v1.pos]) fun (r3 : G.X × Unit) =>
 some [yR 2 (G.O.mk (0 : Int) ([] : List UInt8) ([] : List UInt8) (G.Y.mk ([] : List UInt8) ([] : List UInt8)) ([] : List UInt8) ([] : List G.O)), yR 18 r3.1, yR 20 r0.2.2.1])))) (obL [.rc 2, .rc 18, .rc 20] (c 82 [yI a1, yR 20 b0]) fun (r4 : G.O × G.X × G.P × Unit) =>
 cnd (!decide (r4.2.1.err = (0 : Int))) (some [yR 2 (G.O.mk (0 : Int) ([] : List UInt8) ([] : List UInt8) (G.Y.mk ([] : List UInt8) ([] : List UInt8)) ([] : List UInt8) ([] : List G.O)), yR 18 r4.2.1, yR 20 r4.2.2.1]) (chk (Nat.ble ((List.length a6 + List.length ([r4.1] : List G.O)) * 112) 1073741824) <|
 n1 a1 (a6 ++ ([r4.1] : List G.O)) r4.2.2.1 b107 b104 b105))
def V99x2 (n : Nt) : Bool → List G.O → Int → G.P → G.O → G.O → G.X → Rt := fun x0 x1 x2 x3 x4 x5 x6 => n [yB x0, yS 2 x1, yI x2, yR 20 x3, yR 2 x4, yR 2 x5, yR 18 x6]
def X99x2 (n1 : Nt) := V99x2 (xD uK e [1, 1, 1, 0, 0, 0, 1, 0, 0, 1, 0] aFd (q99x5 c e n1))
def B99x3 (c : TC0) (e4 : List G.O → Int → G.P → G.O → G.O → G.X → Rt) (a6 : List G.O) (b0 : G.P) (b107 : G.O) (b104 : G.O) (b105 : G.X) : Rt :=
 e4 a6 (IntKind.i64.wrap ((List.length a6 : Int) - (1 : Int))) (G.P.mk b0.l b0.current b0.t (IntKind.i64.wrap (b0.pos + (1 : Int)))) b107 b104 b105
def V99x3 (n : Nt) : List G.O → G.P → G.O → G.O → G.X → Rt := fun x0 x1 x2 x3 x4 => n [yS 2 x0, yR 20 x1, yR 2 x2, yR 2 x3, yR 18 x4]
def X99x3 := V99x3 (xD uK e [1, 1, 1, 1, 0] aFc (q99x0 c e))
def B99x4 (c : TC0) (n4 : List G.O → Int → G.P → G.O → G.O → G.X → Rt) (a6 : List G.O) (a13 : Int) (b0 : G.P) (b107 : G.O) (b104 : G.O) (b105 : G.X) : Rt :=
 cnd (decide ((0 : Int) ≤ a13)) (ob (idx a6 a13) fun v0 =>
 obL [.rc 2] (c 54 [yR 2 v0, yR 2 b107]) fun (r1 : G.O × Unit) =>
 n4 a6 (IntKind.i64.wrap (a13 - (1 : Int))) b0 r1.1 b104 b105) (some [yR 2 b107, yR 18 (G.X.mk (0 : Int) (0 : Int)), yR 20 b0])
def V99x4 (n : Nt) : List G.O → Int → G.P → G.O → G.O → G.X → Rt := fun x0 x1 x2 x3 x4 x5 => n [yS 2 x0, yI x1, yR 20 x2, yR 2 x3, yR 2 x4, yR 18 x5]
def X99x4 := V99x4 (xE uK e [1, 1, 1, 1, 0, 1, 0, 1, 0, 0] wF (q99x7 c e))
theorem s99x0 : V99x0 (xF uK c e) = B99x0 c (X99x1 c e) := by kernel_rfl
theorem s99x1 (n1 : Nt) : aGj (xA uK c e [1, 1, 1, 0, 0, 0] rU (lpK U0 rU n1 (q99x2 c e))) = B99x1 c (X99x2 c e n1) (X99x3 c e) := by kernel_rfl
theorem s99x2 (n1 : Nt) : V99x2 (xA uK c e [1, 1, 1, 0, 0, 0, 1, 0, 0, 1, 0] aFd (q99x5 c e n1)) = B99x2 c (X99x3 c e) (aGj n1) := by kernel_rfl
theorem s99x3 : V99x3 (xA uK c e [1, 1, 1, 1, 0] aFc (q99x0 c e)) = B99x3 c (X99x4 c e) := by kernel_rfl
theorem s99x4 (n4 : Nt) : V99x4 (xA uK c e [1, 1, 1, 1, 0, 1, 0, 1, 0, 0] wF (lpK U0 wF n4 (q99x7 c e))) = B99x4 c (V99x4 n4) := by kernel_rfl
def W99x4 (c : TC0) (L : Nat) : Nat → List G.O → Int → G.P → G.O → G.O → G.X → Rt
 | 0 => fun _ _ _ _ _ _ => none
 | n + 1 => B99x4 c (W99x4 c L n)
theorem u99x4 (n : Nat) : V99x4 (xL uK c L [1, 1, 1, 1, 0, 1, 0, 1, 0, 0] wF (q99x7 c (cu c L)) n) = W99x4 c L n := by
 induction n with
 | zero => rfl
 | succ n ih => rw [iU, s99x4]; simp only [ih]; rfl
theorem w99x4 : X99x4 c (cu c L) = W99x4 c L L := u99x4 c L L
def J99x3 (c : TC0) (L : Nat) : List G.O → G.P → G.O → G.O → G.X → Rt := B99x3 c (W99x4 c L L)
theorem j99x3 : X99x3 c (cu c L) = J99x3 c L := by rw [X99x3, bF, s99x3]; simp only [w99x4]; rfl
def J99x2 (c : TC0) (L : Nat) (n1 : Int → List G.O → G.P → G.O → G.O → G.X → Rt) : Bool → List G.O → Int → G.P → G.O → G.O → G.X → Rt := B99x2 c (J99x3 c L) n1
theorem j99x2 (n1 : Nt) : X99x2 c (cu c L) n1 = J99x2 c L (aGj n1) := by rw [X99x2, bF, s99x2]; simp only [j99x3]; rfl
def W99x1 (c : TC0) (L : Nat) : Nat → Int → List G.O → G.P → G.O → G.O → G.X → Rt
 | 0 => fun _ _ _ _ _ _ => none
 | n + 1 => B99x1 c (J99x2 c L (W99x1 c L n)) (J99x3 c L)
theorem u99x1 (n : Nat) : aGj (xL uK c L [1, 1, 1, 0, 0, 0] rU (q99x2 c (cu c L)) n) = W99x1 c L n := by
 induction n with
 | zero => rfl
 | succ n ih => rw [iU, s99x1]; simp only [j99x2, j99x3, ih]; rfl
theorem w99x1 : X99x1 c (cu c L) = W99x1 c L L := u99x1 c L L
def F99 (c : TC0) (L : Nat) : Int → G.P → Rt := B99x0 c (W99x1 c L L)
theorem e99 : V99x0 (xF uK c (cu c L)) = F99 c L := by rw [s99x0]; simp only [w99x1]; rfl
theorem c99 (a1 : Int) (b0 : G.P) (L n : Nat) : CTp L (n + 1) 99 [yI a1, yR 20 b0] = F99 (CTp L n) L a1 b0 := by rw [← e99]; exact cg (x := uK) (by kernel_rfl) (by kernel_rfl) L n _
def q100x0 (c : TC0) (e : Cu) : Kt := xK oF
def q100x1 (c : TC0) (e : Cu) : Kt := xT oF c e [1, 1, 1, 1] (q100x0 c e)
def q100x2 (c : TC0) (e : Cu) : Kt := xT oF c e [1, 1, 1, 1, 1] (q100x0 c e)
def aEi (c : TC0) (e : Cu) : Kt := dW U0 0 (q100x2 c e)
def B100x0 (c : TC0) (k1 : Bool → List UInt8 → List UInt8 → G.A → G.Y → Rt) (a0 : List G.A) (a1 : List UInt8) (a2 : List UInt8) : Rt :=
 obL [.rc 5, .bool] (c 129 [yS 5 a0, yT a1]) fun (r0 : G.A × Bool × Unit) =>
 cnd (!r0.2.1) (some [yR 1 (G.Y.mk ([] : List UInt8) ([] : List UInt8)), yI (13 : Int)]) (cnd (decide ((List.length a2 : Int) < (1 : Int))) (k1 true a1 a2 r0.1 (G.Y.mk ([] : List UInt8) ([] : List UInt8))) (k1 (decide ((40 : Int) < (List.length a2 : Int))) a1 a2 r0.1 (G.Y.mk ([] : List UInt8) ([] : List UInt8))))
def V100x0 (n : Nt) : List G.A → List UInt8 → List UInt8 → Rt := fun x0 x1 x2 => n [yS 5 x0, yT x1, yT x2]
def B100x1 (c : TC0) (e2 : Int → List UInt8 → List UInt8 → G.A → G.Y → Rt) (a27 : Bool) (a1 : List UInt8) (a2 : List UInt8) (b108 : G.A) (b106 : G.Y) : Rt :=
 cnd a27 (some [yR 1 (G.Y.mk ([] : List UInt8) ([] : List UInt8)), yI (3 : Int)]) (e2 (0 : Int) a1 a2 b108 b106)
def V100x1 (n : Nt) : Bool → List UInt8 → List UInt8 → G.A → G.Y → Rt := fun x0 x1 x2 x3 x4 => n [yB x0, yT x1, yT x2, yR 5 x3, yR 1 x4]
def aGi := V100x1 (xD oF e [1, 1, 1, 0, 1, 0] aAo (q100x1 c e))
def B100x2 (c : TC0) (n2 : Int → List UInt8 → List UInt8 → G.A → G.Y → Rt) (a10 : Int) (a1 : List UInt8) (a2 : List UInt8) (b108 : G.A) (b106 : G.Y) : Rt :=
 cnd (decide (a10 < (List.length b108.imports : Int))) (ob (idx b108.imports a10) fun v0 =>
 cnd (decide (v0.name = a2)) (ob (idx b108.imports a10) fun v1 =>
 some [yR 1 v1, yI (0 : Int)]) (n2 (IntKind.i64.wrap (a10 + (1 : Int))) a1 a2 b108 b106)) (some [yR 1 (G.Y.mk a1 a2), yI (0 : Int)])
def aCl (n : Nt) : Int → List UInt8 → List UInt8 → G.A → G.Y → Rt := fun x0 x1 x2 x3 x4 => n [yI x0, yT x1, yT x2, yR 5 x3, yR 1 x4]
def X100x2 := aCl (xE oF e [1, 1, 1, 1, 0, 1, 0, 0] qA (aEi c e))
theorem s100x0 : V100x0 (xF oF c e) = B100x0 c (aGi c e) := by kernel_rfl
theorem s100x1 : V100x1 (xA oF c e [1, 1, 1, 0, 1, 0] aAo (q100x1 c e)) = B100x1 c (X100x2 c e) := by kernel_rfl
theorem s100x2 (n2 : Nt) : aCl (xA oF c e [1, 1, 1, 1, 0, 1, 0, 0] qA (lpK U0 qA n2 (aEi c e))) = B100x2 c (aCl n2) := by kernel_rfl
def aCj (c : TC0) (L : Nat) : Nat → Int → List UInt8 → List UInt8 → G.A → G.Y → Rt
 | 0 => fun _ _ _ _ _ => none
 | n + 1 => B100x2 c (aCj c L n)
theorem u100x2 (n : Nat) : aCl (xL oF c L [1, 1, 1, 1, 0, 1, 0, 0] qA (aEi c (cu c L)) n) = aCj c L n := by
 induction n with
 | zero => rfl
 | succ n ih => rw [iU, s100x2]; simp only [ih]; rfl
theorem w100x2 : X100x2 c (cu c L) = aCj c L L := u100x2 c L L
def J100x1 (c : TC0) (L : Nat) : Bool → List UInt8 → List UInt8 → G.A → G.Y → Rt := B100x1 c (aCj c L L)
theorem j100x1 : aGi c (cu c L) = J100x1 c L := by rw [aGi, bF, s100x1]; simp only [w100x2]; rfl
def F100 (c : TC0) (L : Nat) : List G.A → List UInt8 → List UInt8 → Rt := B100x0 c (J100x1 c L)
theorem e100 : V100x0 (xF oF c (cu c L)) = F100 c L := by rw [s100x0]; simp only [j100x1]; rfl
theorem c100 (a0 : List G.A) (a1 : List UInt8) (a2 : List UInt8) (L n : Nat) : CTp L (n + 1) 100 [yS 5 a0, yT a1, yT a2] = F100 (CTp L n) L a0 a1 a2 := by rw [← e100]; exact cg (x := oF) (by kernel_rfl) (by kernel_rfl) L n _
def q101x0 (c : TC0) (e : Cu) : Kt := xK vR
def q101x1 (c : TC0) (e : Cu) : Kt := xT vR c e [1, 1] (q101x0 c e)
def B101x0 (c : TC0) (k1 : Bool → Int → G.O → Rt) (a0 : G.O) (a1 : Int) : Rt :=
 cnd (!decide ((List.length a0.pair : Int) = (2 : Int))) (k1 true a1 a0) (k1 (decide (a1 ≤ (1 : Int))) a1 a0)
def V101x0 (n : Nt) : G.O → Int → Rt := fun x0 x1 => n [yR 2 x0, yI x1]
def B101x1 (c : TC0) (a13 : Bool) (a1 : Int) (b102 : G.O) : Rt :=
 cnd a13 (some [yI (1 : Int)]) (ob (idx b102.pair (0 : Int)) fun v0 =>
 obL [i6] (c 101 [yR 2 v0, yI (IntKind.i64.wrap (a1 - (1 : Int)))]) fun (r1 : Int × Unit) =>
 cnd (decide (a1 ≤ (IntKind.i64.wrap ((1 : Int) + r1.1)))) (some [yI a1]) (ob (idx b102.pair (1 : Int)) fun v2 =>
 obL [i6] (c 101 [yR 2 v2, yI (IntKind.i64.wrap (a1 - (IntKind.i64.wrap ((1 : Int) + r1.1))))]) fun (r3 : Int × Unit) =>
 some [yI (IntKind.i64.wrap ((IntKind.i64.wrap ((1 : Int) + r1.1)) + r3.1))]))
def V101x1 (n : Nt) : Bool → Int → G.O → Rt := fun x0 x1 x2 => n [yB x0, yI x1, yR 2 x2]
def aGh := V101x1 (xD vR e [1, 0, 1, 0] aAn (q101x1 c e))
theorem s101x0 : V101x0 (xF vR c e) = B101x0 c (aGh c e) := by kernel_rfl
theorem s101x1 : V101x1 (xA vR c e [1, 0, 1, 0] aAn (q101x1 c e)) = B101x1 c := by kernel_rfl
def J101x1 (c : TC0) (L : Nat) : Bool → Int → G.O → Rt := B101x1 c
theorem j101x1 : aGh c (cu c L) = J101x1 c L := by rw [aGh, bF, s101x1]; rfl
def F101 (c : TC0) (L : Nat) : G.O → Int → Rt := B101x0 c (J101x1 c L)
theorem e101 : V101x0 (xF vR c (cu c L)) = F101 c L := by rw [s101x0]; simp only [j101x1]; rfl
theorem c101 (a0 : G.O) (a1 : Int) (L n : Nat) : CTp L (n + 1) 101 [yR 2 a0, yI a1] = F101 (CTp L n) L a0 a1 := by rw [← e101]; exact cg (x := vR) (by kernel_rfl) (by kernel_rfl) L n _
def q107x0 (c : TC0) (e : Cu) : Kt := xK oE
def q107x1 (c : TC0) (e : Cu) : Kt := xT oE c e [1, 1] (q107x0 c e)
def aBc (c : TC0) (e : Cu) : Kt := dW U0 0 (q107x1 c e)
def q107x3 (c : TC0) (e : Cu) (n1 : Nt) : Kt := lpK U0 nJ n1 (aBc c e)
def q107x4 (c : TC0) (e : Cu) (n1 : Nt) : Kt := xT oE c e [1, 0, 1, 0, 0, 1, 1] (q107x3 c e n1)
def q107x5 (c : TC0) (e : Cu) (n1 : Nt) : Kt := dW U0 1 (q107x4 c e n1)
def B107x0 (c : TC0) (e1 : List G.E → Int → G.Y → G.M → Rt) (a0 : List G.E) (a1 : G.Y) : Rt :=
 e1 a0 (0 : Int) a1 (G.M.mk (G.Y.mk ([] : List UInt8) ([] : List UInt8)) ([] : List G.Y) false (G.T.mk (0 : Int) (G.Y.mk ([] : List UInt8) ([] : List UInt8)) (G.O.mk (0 : Int) ([] : List UInt8) ([] : List UInt8) (G.Y.mk ([] : List UInt8) ([] : List UInt8)) ([] : List UInt8) ([] : List G.O)) ([] : List G.T)))
def V107x0 (n : Nt) : List G.E → G.Y → Rt := fun x0 x1 => n [yS 15 x0, yR 1 x1]
def B107x1 (c : TC0) (k2 : Bool → Int → List G.E → G.Y → G.M → Rt) (a0 : List G.E) (a6 : Int) (b103 : G.Y) (b104 : G.M) : Rt :=
 cnd (decide (a6 < (List.length a0 : Int))) (ob (idx a0 a6) fun v0 =>
 cnd (decide (v0.kind = (2 : Int))) (ob (idx a0 a6) fun v1 =>
 k2 (decide (v1.mac.name = b103)) a6 a0 b103 b104) (k2 false a6 a0 b103 b104)) (some [yR 6 (G.M.mk (G.Y.mk ([] : List UInt8) ([] : List UInt8)) ([] : List G.Y) false (G.T.mk (0 : Int) (G.Y.mk ([] : List UInt8) ([] : List UInt8)) (G.O.mk (0 : Int) ([] : List UInt8) ([] : List UInt8) (G.Y.mk ([] : List UInt8) ([] : List UInt8)) ([] : List UInt8) ([] : List G.O)) ([] : List G.T))), yB false])
def yA (n : Nt) : List G.E → Int → G.Y → G.M → Rt := fun x0 x1 x2 x3 => n [yS 15 x0, yI x1, yR 1 x2, yR 6 x3]
def X107x1 := yA (xE oE e [1, 0, 1, 0, 0] nJ (aBc c e))
def B107x2 (c : TC0) (n1 : List G.E → Int → G.Y → G.M → Rt) (a28 : Bool) (a6 : Int) (a0 : List G.E) (b103 : G.Y) (b104 : G.M) : Rt :=
 cnd a28 (ob (idx a0 a6) fun v0 =>
 some [yR 6 v0.mac, yB true]) (n1 a0 (IntKind.i64.wrap (a6 + (1 : Int))) b103 b104)
def V107x2 (n : Nt) : Bool → Int → List G.E → G.Y → G.M → Rt := fun x0 x1 x2 x3 x4 => n [yB x0, yI x1, yS 15 x2, yR 1 x3, yR 6 x4]
def aGg (n1 : Nt) := V107x2 (xD oE e [1, 0, 1, 0, 0, 1, 0, 0, 1, 0] aAm (q107x5 c e n1))
theorem s107x0 : V107x0 (xF oE c e) = B107x0 c (X107x1 c e) := by kernel_rfl
theorem s107x1 (n1 : Nt) : yA (xA oE c e [1, 0, 1, 0, 0] nJ (lpK U0 nJ n1 (aBc c e))) = B107x1 c (aGg c e n1) := by kernel_rfl
theorem s107x2 (n1 : Nt) : V107x2 (xA oE c e [1, 0, 1, 0, 0, 1, 0, 0, 1, 0] aAm (q107x5 c e n1)) = B107x2 c (yA n1) := by kernel_rfl
def J107x2 (c : TC0) (L : Nat) (n1 : List G.E → Int → G.Y → G.M → Rt) : Bool → Int → List G.E → G.Y → G.M → Rt := B107x2 c n1
theorem j107x2 (n1 : Nt) : aGg c (cu c L) n1 = J107x2 c L (yA n1) := by rw [aGg, bF, s107x2]; rfl
def aCi (c : TC0) (L : Nat) : Nat → List G.E → Int → G.Y → G.M → Rt
 | 0 => fun _ _ _ _ => none
 | n + 1 => B107x1 c (J107x2 c L (aCi c L n))
theorem u107x1 (n : Nat) : yA (xL oE c L [1, 0, 1, 0, 0] nJ (aBc c (cu c L)) n) = aCi c L n := by
 induction n with
 | zero => rfl
 | succ n ih => rw [iU, s107x1]; simp only [j107x2, ih]; rfl
theorem w107x1 : X107x1 c (cu c L) = aCi c L L := u107x1 c L L
def F107 (c : TC0) (L : Nat) : List G.E → G.Y → Rt := B107x0 c (aCi c L L)
theorem e107 : V107x0 (xF oE c (cu c L)) = F107 c L := by rw [s107x0]; simp only [w107x1]; rfl
theorem c107 (a0 : List G.E) (a1 : G.Y) (L n : Nat) : CTp L (n + 1) 107 [yS 15 a0, yR 1 a1] = F107 (CTp L n) L a0 a1 := by rw [← e107]; exact cg (x := oE) (by kernel_rfl) (by kernel_rfl) L n _
def q119x0 (c : TC0) (e : Cu) : Kt := xK zQ
def aGM (c : TC0) (k1 : Bool → Rt) (a0 : Int) : Rt :=
 cnd (decide (a0 = (32 : Int))) (k1 true) (cnd (decide (a0 = (9 : Int))) (k1 true) (cnd (decide (a0 = (10 : Int))) (k1 true) (k1 (decide (a0 = (13 : Int))))))
def V119x0 (n : Nt) : Int → Rt := fun x0 => n [⟨(.int .u8), x0⟩]
def aGL (c : TC0) (a2 : Bool) : Rt :=
 some [yB a2]
def V119x1 (n : Nt) : Bool → Rt := fun x0 => n [yB x0]
def aGf := V119x1 (xD zQ e [1, 1, 0] aAl (q119x0 c e))
theorem s119x0 : V119x0 (xF zQ c e) = aGM c (aGf c e) := by kernel_rfl
theorem s119x1 : V119x1 (xA zQ c e [1, 1, 0] aAl (q119x0 c e)) = aGL c := by kernel_rfl
def aGw (c : TC0) (L : Nat) : Bool → Rt := aGL c
theorem j119x1 : aGf c (cu c L) = aGw c L := by rw [aGf, bF, s119x1]; rfl
def F119 (c : TC0) (L : Nat) : Int → Rt := aGM c (aGw c L)
theorem e119 : V119x0 (xF zQ c (cu c L)) = F119 c L := by rw [s119x0]; simp only [j119x1]; rfl
theorem c119 (a0 : Int) (L n : Nat) : CTp L (n + 1) 119 [⟨(.int .u8), a0⟩] = F119 (CTp L n) L a0 := by rw [← e119]; exact cg (x := zQ) (by kernel_rfl) (by kernel_rfl) L n _
def q120x0 (c : TC0) (e : Cu) : Kt := xK zP
def aGK (c : TC0) (k1 : Bool → Rt) (a0 : List UInt8) (a1 : Int) (a2 : Int) (a3 : Int) : Rt :=
 cnd (decide ((0 : Int) ≤ a1)) (cnd (decide ((IntKind.i64.wrap (a1 + (1 : Int))) < (List.length a0 : Int))) (ob (idx a0 a1) fun v0 =>
 cnd (decide ((v0.toNat : Int) = a2)) (ob (idx a0 (IntKind.i64.wrap (a1 + (1 : Int)))) fun v1 =>
 k1 (decide ((v1.toNat : Int) = a3))) (k1 false)) (k1 false)) (k1 false)
def V120x0 (n : Nt) : List UInt8 → Int → Int → Int → Rt := fun x0 x1 x2 x3 => n [yT x0, yI x1, ⟨(.int .u8), x2⟩, ⟨(.int .u8), x3⟩]
def aGJ (c : TC0) (a8 : Bool) : Rt :=
 some [yB a8]
def V120x1 (n : Nt) : Bool → Rt := fun x0 => n [yB x0]
def aGe := V120x1 (xD zP e [1, 1, 0] aAk (q120x0 c e))
theorem s120x0 : V120x0 (xF zP c e) = aGK c (aGe c e) := by kernel_rfl
theorem s120x1 : V120x1 (xA zP c e [1, 1, 0] aAk (q120x0 c e)) = aGJ c := by kernel_rfl
def aGv (c : TC0) (L : Nat) : Bool → Rt := aGJ c
theorem j120x1 : aGe c (cu c L) = aGv c L := by rw [aGe, bF, s120x1]; rfl
def F120 (c : TC0) (L : Nat) : List UInt8 → Int → Int → Int → Rt := aGK c (aGv c L)
theorem e120 : V120x0 (xF zP c (cu c L)) = F120 c L := by rw [s120x0]; simp only [j120x1]; rfl
theorem c120 (a0 : List UInt8) (a1 : Int) (a2 : Int) (a3 : Int) (L n : Nat) : CTp L (n + 1) 120 [yT a0, yI a1, ⟨(.int .u8), a2⟩, ⟨(.int .u8), a3⟩] = F120 (CTp L n) L a0 a1 a2 a3 := by rw [← e120]; exact cg (x := zP) (by kernel_rfl) (by kernel_rfl) L n _
def q122x0 (c : TC0) (e : Cu) : Kt := xK vQ
def q122x1 (c : TC0) (e : Cu) : Kt := xT vQ c e [1, 1] (q122x0 c e)
def q122x2 (c : TC0) (e : Cu) : Kt := dW U0 0 (q122x1 c e)
def aGI (c : TC0) (k1 : Bool → G.K → G.X → Rt) (a0 : G.K) (a1 : Bool) : Rt :=
 cnd (decide ((40 : Int) < (List.length a0.text : Int))) (obL [.rc 18] (c 81 [yI (2 : Int), yI a0.pos]) fun (r0 : G.X × Unit) =>
 some [yR 18 r0.1]) (cnd a1 (cnd (decide (a0.text = ([] : List UInt8))) (k1 true a0 (G.X.mk (0 : Int) (0 : Int))) (cnd (!decide (a0.package = ([] : List UInt8))) (obL [.bool] (c 138 [yT a0.package]) fun (r1 : Bool × Unit) =>
 k1 (!r1.1) a0 (G.X.mk (0 : Int) (0 : Int))) (k1 false a0 (G.X.mk (0 : Int) (0 : Int))))) (cnd (!decide (a0.package = ([] : List UInt8))) (obL [.bool] (c 138 [yT a0.package]) fun (r2 : Bool × Unit) =>
 k1 (!r2.1) a0 (G.X.mk (0 : Int) (0 : Int))) (k1 false a0 (G.X.mk (0 : Int) (0 : Int)))))
def V122x0 (n : Nt) : G.K → Bool → Rt := fun x0 x1 => n [yR 19 x0, yB x1]
def B122x1 (c : TC0) (a13 : Bool) (b102 : G.K) (b104 : G.X) : Rt :=
 cnd a13 (obL [.rc 18] (c 81 [yI (3 : Int), yI b102.pos]) fun (r0 : G.X × Unit) =>
 some [yR 18 r0.1]) (some [yR 18 (G.X.mk (0 : Int) (0 : Int))])
def V122x1 (n : Nt) : Bool → G.K → G.X → Rt := fun x0 x1 x2 => n [yB x0, yR 19 x1, yR 18 x2]
def aGd := V122x1 (xD vQ e [1, 0, 0, 1, 1, 1, 0] aAj (q122x2 c e))
theorem s122x0 : V122x0 (xF vQ c e) = aGI c (aGd c e) := by kernel_rfl
theorem s122x1 : V122x1 (xA vQ c e [1, 0, 0, 1, 1, 1, 0] aAj (q122x2 c e)) = B122x1 c := by kernel_rfl
def J122x1 (c : TC0) (L : Nat) : Bool → G.K → G.X → Rt := B122x1 c
theorem j122x1 : aGd c (cu c L) = J122x1 c L := by rw [aGd, bF, s122x1]; rfl
def F122 (c : TC0) (L : Nat) : G.K → Bool → Rt := aGI c (J122x1 c L)
theorem e122 : V122x0 (xF vQ c (cu c L)) = F122 c L := by rw [s122x0]; simp only [j122x1]; rfl
theorem c122 (a0 : G.K) (a1 : Bool) (L n : Nat) : CTp L (n + 1) 122 [yR 19 a0, yB a1] = F122 (CTp L n) L a0 a1 := by rw [← e122]; exact cg (x := vQ) (by kernel_rfl) (by kernel_rfl) L n _
def q123x0 (c : TC0) (e : Cu) : Kt := xK zO
def aGH (c : TC0) (k1 : Bool → Rt) (a0 : Int) : Rt :=
 cnd (decide ((33 : Int) ≤ a0)) (cnd (decide (a0 ≤ (126 : Int))) (cnd (!decide (a0 = (40 : Int))) (cnd (!decide (a0 = (41 : Int))) (cnd (!decide (a0 = (39 : Int))) (cnd (!decide (a0 = (34 : Int))) (cnd (!decide (a0 = (59 : Int))) (cnd (!decide (a0 = (124 : Int))) (k1 (!decide (a0 = (58 : Int)))) (k1 false)) (k1 false)) (k1 false)) (k1 false)) (k1 false)) (k1 false)) (k1 false)) (k1 false)
def V123x0 (n : Nt) : Int → Rt := fun x0 => n [⟨(.int .u8), x0⟩]
def aGG (c : TC0) (a2 : Bool) : Rt :=
 some [yB a2]
def V123x1 (n : Nt) : Bool → Rt := fun x0 => n [yB x0]
def aGc := V123x1 (xD zO e [1, 1, 0] aAi (q123x0 c e))
theorem s123x0 : V123x0 (xF zO c e) = aGH c (aGc c e) := by kernel_rfl
theorem s123x1 : V123x1 (xA zO c e [1, 1, 0] aAi (q123x0 c e)) = aGG c := by kernel_rfl
def aGu (c : TC0) (L : Nat) : Bool → Rt := aGG c
theorem j123x1 : aGc c (cu c L) = aGu c L := by rw [aGc, bF, s123x1]; rfl
def F123 (c : TC0) (L : Nat) : Int → Rt := aGH c (aGu c L)
theorem e123 : V123x0 (xF zO c (cu c L)) = F123 c L := by rw [s123x0]; simp only [j123x1]; rfl
theorem c123 (a0 : Int) (L n : Nat) : CTp L (n + 1) 123 [⟨(.int .u8), a0⟩] = F123 (CTp L n) L a0 := by rw [← e123]; exact cg (x := zO) (by kernel_rfl) (by kernel_rfl) L n _
def q124x0 (c : TC0) (e : Cu) : Kt := xK oC
def q124x1 (c : TC0) (e : Cu) : Kt := xT oC c e [1, 1] (q124x0 c e)
def aBb (c : TC0) (e : Cu) : Kt := dW U0 0 (q124x1 c e)
def q124x3 (c : TC0) (e : Cu) (n1 : Nt) : Kt := lpK U0 nI n1 (aBb c e)
def q124x4 (c : TC0) (e : Cu) (n1 : Nt) : Kt := xT oC c e [1, 0, 0, 0, 1] (q124x3 c e n1)
def aGF (c : TC0) (e1 : List UInt8 → Int → Rt) (a0 : List UInt8) (a1 : Int) : Rt :=
 e1 a0 a1
def V124x0 (n : Nt) : List UInt8 → Int → Rt := fun x0 x1 => n [yT x0, yI x1]
def aCp (c : TC0) (k2 : Bool → List UInt8 → Int → Rt) (a0 : List UInt8) (a1 : Int) : Rt :=
 cnd (decide (a1 < (List.length a0 : Int))) (ob (idx a0 a1) fun v0 =>
 obL [.bool] (c 123 [⟨(.int .u8), (v0.toNat : Int)⟩]) fun (r1 : Bool × Unit) =>
 k2 r1.1 a0 a1) (k2 false a0 a1)
def xZ (n : Nt) : List UInt8 → Int → Rt := fun x0 x1 => n [yT x0, yI x1]
def X124x1 := xZ (xE oC e [1, 0, 0, 0] nI (aBb c e))
def yF (c : TC0) (n1 : List UInt8 → Int → Rt) (a14 : Bool) (a0 : List UInt8) (a1 : Int) : Rt :=
 cnd a14 (n1 a0 (IntKind.i64.wrap (a1 + (1 : Int)))) (some [yI a1])
def V124x2 (n : Nt) : Bool → List UInt8 → Int → Rt := fun x0 x1 x2 => n [yB x0, yT x1, yI x2]
def aGb (n1 : Nt) := V124x2 (xD oC e [1, 0, 0, 0, 0, 1, 0] aAh (q124x4 c e n1))
theorem s124x0 : V124x0 (xF oC c e) = aGF c (X124x1 c e) := by kernel_rfl
theorem s124x1 (n1 : Nt) : xZ (xA oC c e [1, 0, 0, 0] nI (lpK U0 nI n1 (aBb c e))) = aCp c (aGb c e n1) := by kernel_rfl
theorem s124x2 (n1 : Nt) : V124x2 (xA oC c e [1, 0, 0, 0, 0, 1, 0] aAh (q124x4 c e n1)) = yF c (xZ n1) := by kernel_rfl
def yC (c : TC0) (L : Nat) (n1 : List UInt8 → Int → Rt) : Bool → List UInt8 → Int → Rt := yF c n1
theorem j124x2 (n1 : Nt) : aGb c (cu c L) n1 = yC c L (xZ n1) := by rw [aGb, bF, s124x2]; rfl
def qJ (c : TC0) (L : Nat) : Nat → List UInt8 → Int → Rt
 | 0 => fun _ _ => none
 | n + 1 => aCp c (yC c L (qJ c L n))
theorem u124x1 (n : Nat) : xZ (xL oC c L [1, 0, 0, 0] nI (aBb c (cu c L)) n) = qJ c L n := by
 induction n with
 | zero => rfl
 | succ n ih => rw [iU, s124x1]; simp only [j124x2, ih]; rfl
theorem w124x1 : X124x1 c (cu c L) = qJ c L L := u124x1 c L L
def F124 (c : TC0) (L : Nat) : List UInt8 → Int → Rt := aGF c (qJ c L L)
theorem e124 : V124x0 (xF oC c (cu c L)) = F124 c L := by rw [s124x0]; simp only [w124x1]; rfl
theorem c124 (a0 : List UInt8) (a1 : Int) (L n : Nat) : CTp L (n + 1) 124 [yT a0, yI a1] = F124 (CTp L n) L a0 a1 := by rw [← e124]; exact cg (x := oC) (by kernel_rfl) (by kernel_rfl) L n _
def rI (c : TC0) (e : Cu) : Kt := xK eQ
def q126x1 (c : TC0) (e : Cu) : Kt := xT eQ c e [1, 1, 1] (rI c e)
def q126x2 (c : TC0) (e : Cu) : Kt := xT eQ c e [1, 1, 1, 0, 1, 1] (rI c e)
def aBa (c : TC0) (e : Cu) : Kt := dW U0 0 (q126x2 c e)
def q126x4 (c : TC0) (e : Cu) (n3 : Nt) : Kt := lpK U0 nH n3 (aBa c e)
def q126x5 (c : TC0) (e : Cu) (n3 : Nt) : Kt := xT eQ c e [1, 1, 1, 0, 1, 0, 0, 0, 1] (q126x4 c e n3)
def q126x6 (c : TC0) (e : Cu) : Kt := xT eQ c e [1, 1, 1, 0, 1, 1, 1, 1, 1] (rI c e)
def q126x7 (c : TC0) (e : Cu) : Kt := xT eQ c e [1, 1, 1, 0, 1, 1, 1, 1, 1, 1] (rI c e)
def aA9 (c : TC0) (e : Cu) : Kt := dW U0 2 (q126x7 c e)
def q126x9 (c : TC0) (e : Cu) (n6 : Nt) : Kt := lpK U0 nG n6 (aA9 c e)
def q126x10 (c : TC0) (e : Cu) (n6 : Nt) : Kt := xT eQ c e [1, 1, 1, 0, 1, 1, 1, 1, 1, 0, 1, 0, 0, 1, 1] (q126x9 c e n6)
def aEh (c : TC0) (e : Cu) (n6 : Nt) : Kt := dW U0 3 (q126x10 c e n6)
def aGE (c : TC0) (k1 : Bool → Int → List UInt8 → Rt) (a0 : List UInt8) : Rt :=
 cnd (decide ((0 : Int) < (List.length a0 : Int))) (ob (idx a0 (0 : Int)) fun v0 =>
 k1 (decide ((v0.toNat : Int) = (45 : Int))) (0 : Int) a0) (k1 false (0 : Int) a0)
def V126x0 (n : Nt) : List UInt8 → Rt := fun x0 => n [yT x0]
def aGD (c : TC0) (k2 : Int → List UInt8 → Rt) (a15 : Bool) (a5 : Int) (a0 : List UInt8) : Rt :=
 cnd a15 (k2 (1 : Int) a0) (k2 a5 a0)
def V126x1 (n : Nt) : Bool → Int → List UInt8 → Rt := fun x0 x1 x2 => n [yB x0, yI x1, yT x2]
def aGa := V126x1 (xD eQ e [1, 1, 0, 1, 0] aAg (q126x1 c e))
def aGC (c : TC0) (e3 : Int → List UInt8 → Int → Rt) (a5 : Int) (a0 : List UInt8) : Rt :=
 e3 a5 a0 a5
def V126x2 (n : Nt) : Int → List UInt8 → Rt := fun x0 x1 => n [yI x0, yT x1]
def aF9 := V126x2 (xD eQ e [1, 1, 1, 0] aAf (rI c e))
def aGB (c : TC0) (k4 : Bool → Int → List UInt8 → Int → Rt) (a5 : Int) (a0 : List UInt8) (a6 : Int) : Rt :=
 cnd (decide (a6 < (List.length a0 : Int))) (ob (idx a0 a6) fun v0 =>
 cnd (decide ((48 : Int) ≤ (v0.toNat : Int))) (ob (idx a0 a6) fun v1 =>
 k4 (decide ((v1.toNat : Int) ≤ (57 : Int))) a5 a0 a6) (k4 false a5 a0 a6)) (k4 false a5 a0 a6)
def xY (n : Nt) : Int → List UInt8 → Int → Rt := fun x0 x1 x2 => n [yI x0, yT x1, yI x2]
def X126x3 := xY (xE eQ e [1, 1, 1, 0, 1, 0, 0, 0] nH (aBa c e))
def B126x4 (c : TC0) (n3 : Int → List UInt8 → Int → Rt) (k5 : Bool → List UInt8 → Int → Rt) (a32 : Bool) (a5 : Int) (a0 : List UInt8) (a6 : Int) : Rt :=
 cnd a32 (n3 a5 a0 (IntKind.i64.wrap (a6 + (1 : Int)))) (cnd (decide (a6 = a5)) (some [yT ([] : List UInt8), yT ([] : List UInt8), yB false]) (cnd (decide (a6 = (List.length a0 : Int))) (some [yT a0, yT ([49] : List UInt8), yB true]) (ob (idx a0 a6) fun v0 =>
 cnd (!decide ((v0.toNat : Int) = (47 : Int))) (k5 true a0 a6) (k5 (decide ((IntKind.i64.wrap (a6 + (1 : Int))) = (List.length a0 : Int))) a0 a6))))
def V126x4 (n : Nt) : Bool → Int → List UInt8 → Int → Rt := fun x0 x1 x2 x3 => n [yB x0, yI x1, yT x2, yI x3]
def aF8 (n3 : Nt) := V126x4 (xD eQ e [1, 1, 1, 0, 1, 0, 0, 0, 0, 1, 0] aAe (q126x5 c e n3))
def B126x5 (c : TC0) (e6 : Int → List UInt8 → Int → Rt) (a53 : Bool) (a0 : List UInt8) (a6 : Int) : Rt :=
 cnd a53 (some [yT ([] : List UInt8), yT ([] : List UInt8), yB false]) (e6 (IntKind.i64.wrap (a6 + (1 : Int))) a0 a6)
def V126x5 (n : Nt) : Bool → List UInt8 → Int → Rt := fun x0 x1 x2 => n [yB x0, yT x1, yI x2]
def aF7 := V126x5 (xD eQ e [1, 1, 1, 0, 1, 1, 1, 1, 0, 1, 0] aAd (q126x6 c e))
def B126x6 (c : TC0) (k7 : Bool → Int → List UInt8 → Int → Rt) (a7 : Int) (a0 : List UInt8) (a6 : Int) : Rt :=
 cnd (decide (a7 < (List.length a0 : Int))) (ob (idx a0 a7) fun v0 =>
 cnd (decide ((v0.toNat : Int) < (48 : Int))) (k7 true a7 a0 a6) (ob (idx a0 a7) fun v1 =>
 k7 (decide ((57 : Int) < (v1.toNat : Int))) a7 a0 a6)) (ob (slc a0 (0 : Int) a6) fun v2 =>
 ob (slc a0 (IntKind.i64.wrap (a6 + (1 : Int))) (List.length a0 : Int)) fun v3 =>
 some [yT v2, yT v3, yB true])
def xX (n : Nt) : Int → List UInt8 → Int → Rt := fun x0 x1 x2 => n [yI x0, yT x1, yI x2]
def X126x6 := xX (xE eQ e [1, 1, 1, 0, 1, 1, 1, 1, 1, 0, 1, 0, 0] nG (aA9 c e))
def B126x7 (c : TC0) (n6 : Int → List UInt8 → Int → Rt) (a71 : Bool) (a7 : Int) (a0 : List UInt8) (a6 : Int) : Rt :=
 cnd a71 (some [yT ([] : List UInt8), yT ([] : List UInt8), yB false]) (n6 (IntKind.i64.wrap (a7 + (1 : Int))) a0 a6)
def V126x7 (n : Nt) : Bool → Int → List UInt8 → Int → Rt := fun x0 x1 x2 x3 => n [yB x0, yI x1, yT x2, yI x3]
def aF6 (n6 : Nt) := V126x7 (xD eQ e [1, 1, 1, 0, 1, 1, 1, 1, 1, 0, 1, 0, 0, 1, 0, 0, 1, 0] aAc (aEh c e n6))
theorem s126x0 : V126x0 (xF eQ c e) = aGE c (aGa c e) := by kernel_rfl
theorem s126x1 : V126x1 (xA eQ c e [1, 1, 0, 1, 0] aAg (q126x1 c e)) = aGD c (aF9 c e) := by kernel_rfl
theorem s126x2 : V126x2 (xA eQ c e [1, 1, 1, 0] aAf (rI c e)) = aGC c (X126x3 c e) := by kernel_rfl
theorem s126x3 (n3 : Nt) : xY (xA eQ c e [1, 1, 1, 0, 1, 0, 0, 0] nH (lpK U0 nH n3 (aBa c e))) = aGB c (aF8 c e n3) := by kernel_rfl
theorem s126x4 (n3 : Nt) : V126x4 (xA eQ c e [1, 1, 1, 0, 1, 0, 0, 0, 0, 1, 0] aAe (q126x5 c e n3)) = B126x4 c (xY n3) (aF7 c e) := by kernel_rfl
theorem s126x5 : V126x5 (xA eQ c e [1, 1, 1, 0, 1, 1, 1, 1, 0, 1, 0] aAd (q126x6 c e)) = B126x5 c (X126x6 c e) := by kernel_rfl
theorem s126x6 (n6 : Nt) : xX (xA eQ c e [1, 1, 1, 0, 1, 1, 1, 1, 1, 0, 1, 0, 0] nG (lpK U0 nG n6 (aA9 c e))) = B126x6 c (aF6 c e n6) := by kernel_rfl
theorem s126x7 (n6 : Nt) : V126x7 (xA eQ c e [1, 1, 1, 0, 1, 1, 1, 1, 1, 0, 1, 0, 0, 1, 0, 0, 1, 0] aAc (aEh c e n6)) = B126x7 c (xX n6) := by kernel_rfl
def J126x7 (c : TC0) (L : Nat) (n6 : Int → List UInt8 → Int → Rt) : Bool → Int → List UInt8 → Int → Rt := B126x7 c n6
theorem j126x7 (n6 : Nt) : aF6 c (cu c L) n6 = J126x7 c L (xX n6) := by rw [aF6, bF, s126x7]; rfl
def aCh (c : TC0) (L : Nat) : Nat → Int → List UInt8 → Int → Rt
 | 0 => fun _ _ _ => none
 | n + 1 => B126x6 c (J126x7 c L (aCh c L n))
theorem u126x6 (n : Nat) : xX (xL eQ c L [1, 1, 1, 0, 1, 1, 1, 1, 1, 0, 1, 0, 0] nG (aA9 c (cu c L)) n) = aCh c L n := by
 induction n with
 | zero => rfl
 | succ n ih => rw [iU, s126x6]; simp only [j126x7, ih]; rfl
theorem w126x6 : X126x6 c (cu c L) = aCh c L L := u126x6 c L L
def J126x5 (c : TC0) (L : Nat) : Bool → List UInt8 → Int → Rt := B126x5 c (aCh c L L)
theorem j126x5 : aF7 c (cu c L) = J126x5 c L := by rw [aF7, bF, s126x5]; simp only [w126x6]; rfl
def aGr (c : TC0) (L : Nat) (n3 : Int → List UInt8 → Int → Rt) : Bool → Int → List UInt8 → Int → Rt := B126x4 c n3 (J126x5 c L)
theorem j126x4 (n3 : Nt) : aF8 c (cu c L) n3 = aGr c L (xY n3) := by rw [aF8, bF, s126x4]; simp only [j126x5]; rfl
def sH (c : TC0) (L : Nat) : Nat → Int → List UInt8 → Int → Rt
 | 0 => fun _ _ _ => none
 | n + 1 => aGB c (aGr c L (sH c L n))
theorem u126x3 (n : Nat) : xY (xL eQ c L [1, 1, 1, 0, 1, 0, 0, 0] nH (aBa c (cu c L)) n) = sH c L n := by
 induction n with
 | zero => rfl
 | succ n ih => rw [iU, s126x3]; simp only [j126x4, ih]; rfl
theorem w126x3 : X126x3 c (cu c L) = sH c L L := u126x3 c L L
def aGs (c : TC0) (L : Nat) : Int → List UInt8 → Rt := aGC c (sH c L L)
theorem j126x2 : aF9 c (cu c L) = aGs c L := by rw [aF9, bF, s126x2]; simp only [w126x3]; rfl
def aGt (c : TC0) (L : Nat) : Bool → Int → List UInt8 → Rt := aGD c (aGs c L)
theorem j126x1 : aGa c (cu c L) = aGt c L := by rw [aGa, bF, s126x1]; simp only [j126x2]; rfl
def F126 (c : TC0) (L : Nat) : List UInt8 → Rt := aGE c (aGt c L)
theorem e126 : V126x0 (xF eQ c (cu c L)) = F126 c L := by rw [s126x0]; simp only [j126x1]; rfl
theorem c126 (a0 : List UInt8) (L n : Nat) : CTp L (n + 1) 126 [yT a0] = F126 (CTp L n) L a0 := by rw [← e126]; exact cg (x := eQ) (by kernel_rfl) (by kernel_rfl) L n _
def q129x0 (c : TC0) (e : Cu) : Kt := xK tO
def q129x1 (c : TC0) (e : Cu) : Kt := xT tO c e [1, 1] (q129x0 c e)
def aEg (c : TC0) (e : Cu) : Kt := dW U0 0 (q129x1 c e)
def B129x0 (c : TC0) (e1 : List UInt8 → List G.A → Int → G.A → Rt) (a0 : List G.A) (a1 : List UInt8) : Rt :=
 e1 a1 a0 (0 : Int) (G.A.mk ([] : List UInt8) ([] : List G.Y))
def V129x0 (n : Nt) : List G.A → List UInt8 → Rt := fun x0 x1 => n [yS 5 x0, yT x1]
def B129x1 (c : TC0) (n1 : List UInt8 → List G.A → Int → G.A → Rt) (a1 : List UInt8) (a0 : List G.A) (a6 : Int) (b104 : G.A) : Rt :=
 cnd (decide (a6 < (List.length a0 : Int))) (ob (idx a0 a6) fun v0 =>
 cnd (decide (v0.name = a1)) (ob (idx a0 a6) fun v1 =>
 some [yR 5 v1, yB true]) (n1 a1 a0 (IntKind.i64.wrap (a6 + (1 : Int))) b104)) (some [yR 5 (G.A.mk ([] : List UInt8) ([] : List G.Y)), yB false])
def aCk (n : Nt) : List UInt8 → List G.A → Int → G.A → Rt := fun x0 x1 x2 x3 => n [yT x0, yS 5 x1, yI x2, yR 5 x3]
def X129x1 := aCk (xE tO e [1, 0, 1, 0, 0] pZ (aEg c e))
theorem s129x0 : V129x0 (xF tO c e) = B129x0 c (X129x1 c e) := by kernel_rfl
theorem s129x1 (n1 : Nt) : aCk (xA tO c e [1, 0, 1, 0, 0] pZ (lpK U0 pZ n1 (aEg c e))) = B129x1 c (aCk n1) := by kernel_rfl
def aCg (c : TC0) (L : Nat) : Nat → List UInt8 → List G.A → Int → G.A → Rt
 | 0 => fun _ _ _ _ => none
 | n + 1 => B129x1 c (aCg c L n)
theorem u129x1 (n : Nat) : aCk (xL tO c L [1, 0, 1, 0, 0] pZ (aEg c (cu c L)) n) = aCg c L n := by
 induction n with
 | zero => rfl
 | succ n ih => rw [iU, s129x1]; simp only [ih]; rfl
theorem w129x1 : X129x1 c (cu c L) = aCg c L L := u129x1 c L L
def F129 (c : TC0) (L : Nat) : List G.A → List UInt8 → Rt := B129x0 c (aCg c L L)
theorem e129 : V129x0 (xF tO c (cu c L)) = F129 c L := by rw [s129x0]; simp only [w129x1]; rfl
theorem c129 (a0 : List G.A) (a1 : List UInt8) (L n : Nat) : CTp L (n + 1) 129 [yS 5 a0, yT a1] = F129 (CTp L n) L a0 a1 := by rw [← e129]; exact cg (x := tO) (by kernel_rfl) (by kernel_rfl) L n _
def B145x0 (c : TC0) (a0 : G.T) : Rt :=
 cnd (!decide (a0.kind = (3 : Int))) (some [yS 3 ([] : List G.T)]) (some [yS 3 a0.args])
def V145x0 (n : Nt) : G.T → Rt := fun x0 => n [yR 3 x0]
theorem s145x0 : V145x0 (xF ii145 c e) = B145x0 c := by kernel_rfl
def F145 (c : TC0) (L : Nat) : G.T → Rt := B145x0 c
theorem e145 : V145x0 (xF ii145 c (cu c L)) = F145 c L := s145x0 _ _
theorem c145 (a0 : G.T) (L n : Nat) : CTp L (n + 1) 145 [yR 3 a0] = F145 (CTp L n) L a0 := by rw [← e145]; exact cg (x := ii145) (by kernel_rfl) (by kernel_rfl) L n _
end
end Go.TV
namespace Go.TV
open Go.AI Go.PI Go.Proofs
theorem obL_l {β : Type} {b : List G.T} {K : List G.T × Unit → Option β} : obL (D := U0.D) [.sl (.rc 3)] (some [yS 3 b]) K = K (b, ()) := rfl
theorem tX {β : Type} {A : Option β} : chk true A = A := rfl
theorem wrapn {k : Nat} (h : k < 4000000000000000000) : IntKind.i64.wrap (k : Int) = (k : Int) := by
 unfold IntKind.wrap
 simp [IntKind.bits, IntKind.signed]
 omega
def lt2 (a : List G.T) (t : G.T) : TVs := [yS 3 a, yR 3 t]
def tl1 (a : List G.T) : TVs := [yS 3 a]
end Go.TV
namespace Go.TV
open Go.AI Go.PI Go.Proofs
def iE : List UInt8 := [108, 105, 115, 112]
def isA (t : G.T) (s : List UInt8) (k : Int) : Bool := decide (t.kind = 3) && decide (t.name = ⟨iE, s⟩) && decide ((t.args.length : Int) = k)
def tsi (t : G.T) (s : List UInt8) (k : Int) : TVs := [yR 3 t, yT s, yI k]
theorem obL_y {β : Type} {b : G.Y} {K : G.Y × Unit → Option β} : obL (D := U0.D) [.rc 1] (some [yR 1 b]) K = K (b, ()) := rfl
theorem aAM {s : List UInt8} {L n : Nat} : CTp L (n + 1) 38 [yT s] = some [yR 1 (⟨iE, s⟩ : G.Y)] := by
 rw [c38]; rfl
theorem Is_ok {t : G.T} {s : List UInt8} {k : Int} {L n : Nat} : CTp L (n + 2) 29 (tsi t s k) = some (bb (isA t s k)) := by
 show CTp L (n + 1 + 1) 29 [yR 3 _, yT _, yI _] = _
 rw [c29, F29, B29x0, aAM, obL_y]
 simp only [J29x1, B29x1, isA]
 by_cases e1 : t.kind = 3
 ·by_cases e2 : t.name = ⟨iE, s⟩
  ·simp [e1, e2, cnd, bb]
  ·simp [e1, e2, cnd, bb]
 ·simp [e1, cnd, bb]
theorem IsP_ok {t : G.T} {s : List UInt8} {k : Int} {L n : Nat} : CTp L (n + 1) 24 (tsi t s k) = some (bb (isA t s k)) := by
 show CTp L (n + 1) 24 [yR 3 _, yT _, yI _] = _
 rw [c24, F24, B24x0]
 simp only [J24x1, B24x1, isA]
 cases t with | mk kk nm v l =>
 cases nm with | mk p q =>
 by_cases e1 : kk = 3
 ·by_cases e2 : p = iE
  ·by_cases e3 : q = s
   ·simp [G.T.kind, G.T.name, G.T.args, G.Y.package, G.Y.name, iE, e1, e2, e3, cnd, bb]
   ·simp [G.T.kind, G.T.name, G.T.args, G.Y.package, G.Y.name, iE, e1, e2, e3, cnd, bb]
  ·have e2' : ¬ p = [108, 105, 115, 112] := e2
   simp [G.T.kind, G.T.name, G.T.args, G.Y.package, G.Y.name, iE, e1, e2', cnd, bb]
 ·simp [G.T.kind, e1, cnd, bb]
end Go.TV
namespace Go.TV
open Go.AI Go.PI Go.Proofs
def uJ : List UInt8 := [110, 111, 116]
def eqB : List UInt8 := [101, 113, 117, 97, 108]
theorem gW (x : G.T) : cZ x.args + 4 ≤ tsz x := by cases x; simp only [G.T.args, tsz]; omega
theorem tM {x : G.T} {s : List UInt8} {k : Nat} (h : isA x s (k : Int) = true) : x.args.length = k := by
 simp only [isA, bjE, djE] at h; omega
theorem len1 {l : List G.T} (h : l.length = 1) : ∃ p, l = [p] := by
 match l, h with
 | [p], _ => exact ⟨p, rfl⟩
theorem len2 {l : List G.T} (h : l.length = 2) : ∃ p q, l = [p, q] := by
 match l, h with
 | [p, q], _ => exact ⟨p, q, rfl⟩
end Go.TV
namespace Go.TV
open Go.AI Go.PI Go.Proofs
set_option maxRecDepth 20000
noncomputable section
variable (c : TC0) (e : Cu) (L : Nat)
def q77x0 (c : TC0) (e : Cu) : Kt := xK ii77
def q77x1 (c : TC0) (e : Cu) : Kt := xT ii77 c e [1, 1, 1, 1] (q77x0 c e)
def q77x2 (c : TC0) (e : Cu) : Kt := dW U0 0 (q77x1 c e)
def B77x0 (c : TC0) (e1 : List G.R → Int → G.Y → Rt) (a0 : G.Y) : Rt :=
 cnd (!decide (a0.package = ([108, 105, 115, 112] : List UInt8))) (some [yI (0 : Int), yB false]) (obL [zS 22] (c 88 []) fun (r0 : List G.R × Unit) =>
 e1 r0.1 (0 : Int) a0)
def V77x0 (n : Nt) : G.Y → Rt := fun x0 => n [yR 1 x0]
def B77x1 (c : TC0) (n1 : List G.R → Int → G.Y → Rt) (a4 : List G.R) (a5 : Int) (b101 : G.Y) : Rt :=
 cnd (decide (a5 < (List.length a4 : Int))) (ob (idx a4 a5) fun v0 =>
 cnd (decide (v0.name = b101.name)) (ob (idx a4 a5) fun v1 =>
 some [yI v1.arity, yB true]) (n1 a4 (IntKind.i64.wrap (a5 + (1 : Int))) b101)) (some [yI (0 : Int), yB false])
def V77x1 (n : Nt) : List G.R → Int → G.Y → Rt := fun x0 x1 x2 => n [yS 22 x0, yI x1, yR 1 x2]
def X77x1 := V77x1 (xE ii77 e [1, 1, 1, 0, 1, 0, 0] wJ (q77x2 c e))
theorem s77x0 : V77x0 (xF ii77 c e) = B77x0 c (X77x1 c e) := by kernel_rfl
theorem s77x1 (n1 : Nt) : V77x1 (xA ii77 c e [1, 1, 1, 0, 1, 0, 0] wJ (lpK U0 wJ n1 (q77x2 c e))) = B77x1 c (V77x1 n1) := by kernel_rfl
def aAz (c : TC0) (L : Nat) : Nat → List G.R → Int → G.Y → Rt
 | 0 => fun _ _ _ => none
 | n + 1 => B77x1 c (aAz c L n)
theorem u77x1 (n : Nat) : V77x1 (xL ii77 c L [1, 1, 1, 0, 1, 0, 0] wJ (q77x2 c (cu c L)) n) = aAz c L n := by
 induction n with
 | zero => rfl
 | succ n ih => rw [iU, s77x1]; simp only [ih]; rfl
theorem w77x1 : X77x1 c (cu c L) = aAz c L L := u77x1 c L L
def F77 (c : TC0) (L : Nat) : G.Y → Rt := B77x0 c (aAz c L L)
theorem e77 : V77x0 (xF ii77 c (cu c L)) = F77 c L := by rw [s77x0]; simp only [w77x1]; rfl
theorem c77 (a0 : G.Y) (L n : Nat) : CTp L (n + 1) 77 [yR 1 a0] = F77 (CTp L n) L a0 := by rw [← e77]; exact cg (x := ii77) (by kernel_rfl) (by kernel_rfl) L n _
def B78x0 (c : TC0) (a0 : List G.E) (a1 : G.Y) : Rt :=
 obL [i6, i6, .bool] (c 95 [yS 15 a0, yR 1 a1]) fun (r0 : Int × Int × Bool × Unit) =>
 cnd (!r0.2.2.1) (some [yR 4 (G.F.mk (G.Y.mk ([] : List UInt8) ([] : List UInt8)) ([] : List G.Y) (0 : Int) (G.T.mk (0 : Int) (G.Y.mk ([] : List UInt8) ([] : List UInt8)) (G.O.mk (0 : Int) ([] : List UInt8) ([] : List UInt8) (G.Y.mk ([] : List UInt8) ([] : List UInt8)) ([] : List UInt8) ([] : List G.O)) ([] : List G.T)) (G.T.mk (0 : Int) (G.Y.mk ([] : List UInt8) ([] : List UInt8)) (G.O.mk (0 : Int) ([] : List UInt8) ([] : List UInt8) (G.Y.mk ([] : List UInt8) ([] : List UInt8)) ([] : List UInt8) ([] : List G.O)) ([] : List G.T)) (G.T.mk (0 : Int) (G.Y.mk ([] : List UInt8) ([] : List UInt8)) (G.O.mk (0 : Int) ([] : List UInt8) ([] : List UInt8) (G.Y.mk ([] : List UInt8) ([] : List UInt8)) ([] : List UInt8) ([] : List G.O)) ([] : List G.T))), yB false]) (ob (idx a0 r0.1) fun v1 =>
 obL [zS 4] (c 96 [yR 15 v1]) fun (r2 : List G.F × Unit) =>
 ob (idx r2.1 r0.2.1) fun v3 =>
 some [yR 4 v3, yB true])
def V78x0 (n : Nt) : List G.E → G.Y → Rt := fun x0 x1 => n [yS 15 x0, yR 1 x1]
theorem s78x0 : V78x0 (xF ii78 c e) = B78x0 c := by kernel_rfl
def F78 (c : TC0) (L : Nat) : List G.E → G.Y → Rt := B78x0 c
theorem e78 : V78x0 (xF ii78 c (cu c L)) = F78 c L := s78x0 _ _
theorem c78 (a0 : List G.E) (a1 : G.Y) (L n : Nat) : CTp L (n + 1) 78 [yS 15 a0, yR 1 a1] = F78 (CTp L n) L a0 a1 := by rw [← e78]; exact cg (x := ii78) (by kernel_rfl) (by kernel_rfl) L n _
def B79x0 (c : TC0) (a0 : G.Y) (a1 : List G.T) : Rt :=
 some [yR 3 (G.T.mk (3 : Int) a0 (G.O.mk (0 : Int) ([] : List UInt8) ([] : List UInt8) (G.Y.mk ([] : List UInt8) ([] : List UInt8)) ([] : List UInt8) ([] : List G.O)) a1)]
def V79x0 (n : Nt) : G.Y → List G.T → Rt := fun x0 x1 => n [yR 1 x0, yS 3 x1]
theorem s79x0 : V79x0 (xF ii79 c e) = B79x0 c := by kernel_rfl
def F79 (c : TC0) (L : Nat) : G.Y → List G.T → Rt := B79x0 c
theorem e79 : V79x0 (xF ii79 c (cu c L)) = F79 c L := s79x0 _ _
theorem c79 (a0 : G.Y) (a1 : List G.T) (L n : Nat) : CTp L (n + 1) 79 [yR 1 a0, yS 3 a1] = F79 (CTp L n) L a0 a1 := by rw [← e79]; exact cg (x := ii79) (by kernel_rfl) (by kernel_rfl) L n _
def q80x0 (c : TC0) (e : Cu) : Kt := xK ii80
def q80x1 (c : TC0) (e : Cu) : Kt := dW U0 0 (q80x0 c e)
def B80x0 (c : TC0) (e1 : Int → List UInt8 → List G.K → G.X → Rt) (a0 : List UInt8) : Rt :=
 cnd (decide ((6000 : Int) < (List.length a0 : Int))) (obL [.rc 18] (c 81 [yI (2 : Int), yI (0 : Int)]) fun (r0 : G.X × Unit) =>
 some [yS 19 ([] : List G.K), yR 18 r0.1]) (e1 (0 : Int) a0 ([] : List G.K) (G.X.mk (0 : Int) (0 : Int)))
def V80x0 (n : Nt) : List UInt8 → Rt := fun x0 => n [yT x0]
def B80x1 (c : TC0) (n1 : Int → List UInt8 → List G.K → G.X → Rt) (a5 : Int) (a0 : List UInt8) (a4 : List G.K) (b103 : G.X) : Rt :=
 obL [i6, .bool] (c 97 [yT a0, yI a5]) fun (r0 : Int × Bool × Unit) =>
 cnd (!r0.2.1) (obL [.rc 18] (c 81 [yI (11 : Int), yI (List.length a0 : Int)]) fun (r1 : G.X × Unit) =>
 some [yS 19 ([] : List G.K), yR 18 r1.1]) (cnd (decide ((List.length a0 : Int) ≤ r0.1)) (chk (Nat.ble ((List.length a4 + List.length ([(G.K.mk (0 : Int) (List.length a0 : Int) ([] : List UInt8) ([] : List UInt8) ([] : List UInt8))] : List G.K)) * 64) 1073741824) <|
 some [yS 19 (a4 ++ ([(G.K.mk (0 : Int) (List.length a0 : Int) ([] : List UInt8) ([] : List UInt8) ([] : List UInt8))] : List G.K)), yR 18 (G.X.mk (0 : Int) (0 : Int))]) (obL [.rc 19, i6, .rc 18] (c 98 [yT a0, yI r0.1]) fun (r2 : G.K × Int × G.X × Unit) =>
 cnd (!decide (r2.2.2.1.err = (0 : Int))) (some [yS 19 ([] : List G.K), yR 18 r2.2.2.1]) (chk (Nat.ble ((List.length a4 + List.length ([r2.1] : List G.K)) * 64) 1073741824) <|
 n1 r2.2.1 a0 (a4 ++ ([r2.1] : List G.K)) b103)))
def V80x1 (n : Nt) : Int → List UInt8 → List G.K → G.X → Rt := fun x0 x1 x2 x3 => n [yI x0, yT x1, yS 19 x2, yR 18 x3]
def X80x1 := V80x1 (xE ii80 e [1, 1, 1, 1, 0, 0] wI (q80x1 c e))
theorem s80x0 : V80x0 (xF ii80 c e) = B80x0 c (X80x1 c e) := by kernel_rfl
theorem s80x1 (n1 : Nt) : V80x1 (xA ii80 c e [1, 1, 1, 1, 0, 0] wI (lpK U0 wI n1 (q80x1 c e))) = B80x1 c (V80x1 n1) := by kernel_rfl
def aAy (c : TC0) (L : Nat) : Nat → Int → List UInt8 → List G.K → G.X → Rt
 | 0 => fun _ _ _ _ => none
 | n + 1 => B80x1 c (aAy c L n)
theorem u80x1 (n : Nat) : V80x1 (xL ii80 c L [1, 1, 1, 1, 0, 0] wI (q80x1 c (cu c L)) n) = aAy c L n := by
 induction n with
 | zero => rfl
 | succ n ih => rw [iU, s80x1]; simp only [ih]; rfl
theorem w80x1 : X80x1 c (cu c L) = aAy c L L := u80x1 c L L
def F80 (c : TC0) (L : Nat) : List UInt8 → Rt := B80x0 c (aAy c L L)
theorem e80 : V80x0 (xF ii80 c (cu c L)) = F80 c L := by rw [s80x0]; simp only [w80x1]; rfl
theorem c80 (a0 : List UInt8) (L n : Nat) : CTp L (n + 1) 80 [yT a0] = F80 (CTp L n) L a0 := by rw [← e80]; exact cg (x := ii80) (by kernel_rfl) (by kernel_rfl) L n _
def q82x0 (c : TC0) (e : Cu) : Kt := xK ii82
def q82x1 (c : TC0) (e : Cu) : Kt := xT ii82 c e [1, 1, 1, 1] (q82x0 c e)
def q82x2 (c : TC0) (e : Cu) : Kt := dW U0 0 (q82x1 c e)
def B82x0 (c : TC0) (k1 : Bool → Int → Int → G.P → G.K → G.O → G.O → G.X → Rt) (a1 : Int) (b0 : G.P) : Rt :=
 ob (idx b0.t b0.pos) fun v0 =>
 cnd (decide (v0.kind = (0 : Int))) (obL [.rc 18] (c 81 [yI (11 : Int), yI v0.pos]) fun (r1 : G.X × Unit) =>
 some [yR 2 (G.O.mk (0 : Int) ([] : List UInt8) ([] : List UInt8) (G.Y.mk ([] : List UInt8) ([] : List UInt8)) ([] : List UInt8) ([] : List G.O)), yR 18 r1.1, yR 20 b0]) (cnd (decide (v0.kind = (2 : Int))) (k1 (decide (v0.kind = (2 : Int))) v0.kind a1 b0 v0 (G.O.mk (0 : Int) ([] : List UInt8) ([] : List UInt8) (G.Y.mk ([] : List UInt8) ([] : List UInt8)) ([] : List UInt8) ([] : List G.O)) (G.O.mk (0 : Int) ([] : List UInt8) ([] : List UInt8) (G.Y.mk ([] : List UInt8) ([] : List UInt8)) ([] : List UInt8) ([] : List G.O)) (G.X.mk (0 : Int) (0 : Int))) (k1 (decide (v0.kind = (3 : Int))) v0.kind a1 b0 v0 (G.O.mk (0 : Int) ([] : List UInt8) ([] : List UInt8) (G.Y.mk ([] : List UInt8) ([] : List UInt8)) ([] : List UInt8) ([] : List G.O)) (G.O.mk (0 : Int) ([] : List UInt8) ([] : List UInt8) (G.Y.mk ([] : List UInt8) ([] : List UInt8)) ([] : List UInt8) ([] : List G.O)) (G.X.mk (0 : Int) (0 : Int))))
def V82x0 (n : Nt) : Int → G.P → Rt := fun x0 x1 => n [yI x0, yR 20 x1]
def B82x1 (c : TC0) (k2 : List UInt8 → G.P → G.O → G.K → G.O → G.X → Rt) (a31 : Bool) (a24 : Int) (a1 : Int) (b0 : G.P) (b106 : G.K) (b107 : G.O) (b104 : G.O) (b105 : G.X) : Rt :=
 cnd a31 (obL [.rc 18] (c 81 [yI (12 : Int), yI b106.pos]) fun (r0 : G.X × Unit) =>
 some [yR 2 b107, yR 18 r0.1, yR 20 b0]) (cnd (decide (a24 = (5 : Int))) (some [yR 2 (G.O.mk (1 : Int) b106.text b106.den (G.Y.mk ([] : List UInt8) ([] : List UInt8)) ([] : List UInt8) ([] : List G.O)), yR 18 (G.X.mk (0 : Int) (0 : Int)), yR 20 (G.P.mk b0.l b0.current b0.t (IntKind.i64.wrap (b0.pos + (1 : Int))))]) (cnd (decide (a24 = (7 : Int))) (obL [.rc 2] (c 53 [yT b106.text]) fun (r1 : G.O × Unit) =>
 some [yR 2 r1.1, yR 18 (G.X.mk (0 : Int) (0 : Int)), yR 20 (G.P.mk b0.l b0.current b0.t (IntKind.i64.wrap (b0.pos + (1 : Int))))]) (cnd (decide (a24 = (6 : Int))) (cnd (decide (b106.package = ([] : List UInt8))) (k2 b0.current (G.P.mk b0.l b0.current b0.t (IntKind.i64.wrap (b0.pos + (1 : Int)))) b107 b106 b104 b105) (k2 b106.package (G.P.mk b0.l b0.current b0.t (IntKind.i64.wrap (b0.pos + (1 : Int)))) b107 b106 b104 b105)) (cnd (decide ((200 : Int) < a1)) (obL [.rc 18] (c 81 [yI (2 : Int), yI b106.pos]) fun (r2 : G.X × Unit) =>
 some [yR 2 b107, yR 18 r2.1, yR 20 b0]) (cnd (decide (b106.kind = (4 : Int))) (obL [.rc 2, .rc 18, .rc 20] (c 82 [yI (IntKind.i64.wrap (a1 + (1 : Int))), yR 20 (G.P.mk b0.l b0.current b0.t (IntKind.i64.wrap (b0.pos + (1 : Int))))]) fun (r3 : G.O × G.X × G.P × Unit) =>
 cnd (!decide (r3.2.1.err = (0 : Int))) (some [yR 2 b107, yR 18 r3.2.1, yR 20 r3.2.2.1]) (obL [.rc 1] (c 38 [yT ([113, 117, 111, 116, 101] : List UInt8)]) fun (r4 : G.Y × Unit) =>
 obL [.rc 2] (c 52 [yR 1 r4.1]) fun (r5 : G.O × Unit) =>
 obL [.rc 2] (c 55 [yS 2 ([r5.1, r3.1] : List G.O)]) fun (r6 : G.O × Unit) =>
 some [yR 2 r6.1, yR 18 r3.2.1, yR 20 r3.2.2.1])) (obL [.rc 2, .rc 18, .rc 20] (c 99 [yI (IntKind.i64.wrap (a1 + (1 : Int))), yR 20 (G.P.mk b0.l b0.current b0.t (IntKind.i64.wrap (b0.pos + (1 : Int))))]) fun (r7 : G.O × G.X × G.P × Unit) =>
 some [yR 2 r7.1, yR 18 r7.2.1, yR 20 r7.2.2.1]))))))
def V82x1 (n : Nt) : Bool → Int → Int → G.P → G.K → G.O → G.O → G.X → Rt := fun x0 x1 x2 x3 x4 x5 x6 x7 => n [yB x0, yI x1, yI x2, yR 20 x3, yR 19 x4, yR 2 x5, yR 2 x6, yR 18 x7]
def X82x1 := V82x1 (xD ii82 e [1, 1, 1, 0, 1, 0, 1, 1, 1, 0] aFn (q82x2 c e))
def B82x2 (c : TC0) (a8 : List UInt8) (b0 : G.P) (b107 : G.O) (b106 : G.K) (b104 : G.O) (b105 : G.X) : Rt :=
 obL [.rc 1, i6] (c 100 [yS 5 b0.l, yT a8, yT b106.text]) fun (r0 : G.Y × Int × Unit) =>
 cnd (!decide (r0.2.1 = (0 : Int))) (obL [.rc 18] (c 81 [yI r0.2.1, yI b106.pos]) fun (r1 : G.X × Unit) =>
 some [yR 2 b107, yR 18 r1.1, yR 20 b0]) (obL [.rc 2] (c 52 [yR 1 r0.1]) fun (r2 : G.O × Unit) =>
 some [yR 2 r2.1, yR 18 (G.X.mk (0 : Int) (0 : Int)), yR 20 b0])
def V82x2 (n : Nt) : List UInt8 → G.P → G.O → G.K → G.O → G.X → Rt := fun x0 x1 x2 x3 x4 x5 => n [yT x0, yR 20 x1, yR 2 x2, yR 19 x3, yR 2 x4, yR 18 x5]
def X82x2 := V82x2 (xD ii82 e [1, 1, 1, 0, 1, 0, 1, 1, 1, 0, 1, 1, 1, 1, 1, 1, 0, 1, 1, 1, 0] aFm (q82x2 c e))
theorem s82x0 : V82x0 (xF ii82 c e) = B82x0 c (X82x1 c e) := by kernel_rfl
theorem s82x1 : V82x1 (xA ii82 c e [1, 1, 1, 0, 1, 0, 1, 1, 1, 0] aFn (q82x2 c e)) = B82x1 c (X82x2 c e) := by kernel_rfl
theorem s82x2 : V82x2 (xA ii82 c e [1, 1, 1, 0, 1, 0, 1, 1, 1, 0, 1, 1, 1, 1, 1, 1, 0, 1, 1, 1, 0] aFm (q82x2 c e)) = B82x2 c := by kernel_rfl
def J82x2 (c : TC0) (L : Nat) : List UInt8 → G.P → G.O → G.K → G.O → G.X → Rt := B82x2 c
theorem j82x2 : X82x2 c (cu c L) = J82x2 c L := by rw [X82x2, bF, s82x2]; rfl
def J82x1 (c : TC0) (L : Nat) : Bool → Int → Int → G.P → G.K → G.O → G.O → G.X → Rt := B82x1 c (J82x2 c L)
theorem j82x1 : X82x1 c (cu c L) = J82x1 c L := by rw [X82x1, bF, s82x1]; simp only [j82x2]; rfl
def F82 (c : TC0) (L : Nat) : Int → G.P → Rt := B82x0 c (J82x1 c L)
theorem e82 : V82x0 (xF ii82 c (cu c L)) = F82 c L := by rw [s82x0]; simp only [j82x1]; rfl
theorem c82 (a1 : Int) (b0 : G.P) (L n : Nat) : CTp L (n + 1) 82 [yI a1, yR 20 b0] = F82 (CTp L n) L a1 b0 := by rw [← e82]; exact cg (x := ii82) (by kernel_rfl) (by kernel_rfl) L n _
def B88x0 (c : TC0) : Rt :=
 some [yS 22 ([(G.R.mk ([105, 102] : List UInt8) (3 : Int)), (G.R.mk ([101, 113, 117, 97, 108] : List UInt8) (2 : Int)), (G.R.mk ([99, 111, 110, 115] : List UInt8) (2 : Int)), (G.R.mk ([99, 97, 114] : List UInt8) (1 : Int)), (G.R.mk ([99, 100, 114] : List UInt8) (1 : Int)), (G.R.mk ([99, 111, 110, 115, 112] : List UInt8) (1 : Int)), (G.R.mk ([115, 121, 109, 98, 111, 108, 112] : List UInt8) (1 : Int)), (G.R.mk ([115, 116, 114, 105, 110, 103, 112] : List UInt8) (1 : Int)), (G.R.mk ([114, 97, 116, 105, 111, 110, 97, 108, 112] : List UInt8) (1 : Int)), (G.R.mk ([105, 110, 116, 101, 103, 101, 114, 112] : List UInt8) (1 : Int)), (G.R.mk ([98, 105, 110, 97, 114, 121, 45, 43] : List UInt8) (2 : Int)), (G.R.mk ([98, 105, 110, 97, 114, 121, 45, 42] : List UInt8) (2 : Int)), (G.R.mk ([117, 110, 97, 114, 121, 45, 45] : List UInt8) (1 : Int)), (G.R.mk ([117, 110, 97, 114, 121, 45, 47] : List UInt8) (1 : Int)), (G.R.mk ([60] : List UInt8) (2 : Int)), (G.R.mk ([110, 117, 109, 101, 114, 97, 116, 111, 114] : List UInt8) (1 : Int)), (G.R.mk ([100, 101, 110, 111, 109, 105, 110, 97, 116, 111, 114] : List UInt8) (1 : Int)), (G.R.mk ([102, 108, 111, 111, 114] : List UInt8) (1 : Int)), (G.R.mk ([115, 121, 109, 98, 111, 108, 45, 110, 97, 109, 101] : List UInt8) (1 : Int)), (G.R.mk ([115, 121, 109, 98, 111, 108, 45, 112, 97, 99, 107, 97, 103, 101, 45, 110, 97, 109, 101] : List UInt8) (1 : Int)), (G.R.mk ([105, 110, 116, 101, 114, 110] : List UInt8) (2 : Int)), (G.R.mk ([115, 116, 114, 105, 110, 103, 45, 97, 112, 112, 101, 110, 100] : List UInt8) (2 : Int)), (G.R.mk ([115, 116, 114, 105, 110, 103, 45, 108, 101, 110, 103, 116, 104] : List UInt8) (1 : Int)), (G.R.mk ([115, 116, 114, 105, 110, 103, 45, 98, 121, 116, 101] : List UInt8) (2 : Int)), (G.R.mk ([98, 121, 116, 101, 45, 115, 116, 114, 105, 110, 103] : List UInt8) (1 : Int))] : List G.R)]
def V88x0 (n : Nt) : Rt := n []
theorem s88x0 : V88x0 (xF ii88 c e) = B88x0 c := by kernel_rfl
def F88 (c : TC0) (L : Nat) : Rt := B88x0 c
theorem e88 : V88x0 (xF ii88 c (cu c L)) = F88 c L := s88x0 _ _
theorem c88 (L n : Nat) : CTp L (n + 1) 88 [] = F88 (CTp L n) L := by rw [← e88]; exact cg (x := ii88) (by kernel_rfl) (by kernel_rfl) L n _
def q95x0 (c : TC0) (e : Cu) : Kt := xK aCR
def q95x1 (c : TC0) (e : Cu) : Kt := xT aCR c e [1, 1] (q95x0 c e)
def q95x2 (c : TC0) (e : Cu) : Kt := dW U0 0 (q95x1 c e)
def q95x3 (c : TC0) (e : Cu) (n1 : Nt) : Kt := lpK U0 rX n1 (q95x2 c e)
def q95x4 (c : TC0) (e : Cu) (n1 : Nt) : Kt := xT aCR c e [1, 0, 1, 0, 0, 1, 1] (q95x3 c e n1)
def q95x5 (c : TC0) (e : Cu) (n1 : Nt) : Kt := dW U0 1 (q95x4 c e n1)
def q95x6 (c : TC0) (e : Cu) (n1 : Nt) : Kt := dW U0 2 (q95x5 c e n1)
def B95x0 (c : TC0) (e1 : List G.E → Int → G.Y → Rt) (a0 : List G.E) (a1 : G.Y) : Rt :=
 e1 a0 (0 : Int) a1
def V95x0 (n : Nt) : List G.E → G.Y → Rt := fun x0 x1 => n [yS 15 x0, yR 1 x1]
def B95x1 (c : TC0) (e2 : List G.F → Int → Int → List G.E → G.Y → Rt) (a0 : List G.E) (a7 : Int) (b103 : G.Y) : Rt :=
 cnd (decide (a7 < (List.length a0 : Int))) (ob (idx a0 a7) fun v0 =>
 obL [zS 4] (c 96 [yR 15 v0]) fun (r1 : List G.F × Unit) =>
 e2 r1.1 (0 : Int) a7 a0 b103) (some [yI (0 : Int), yI (0 : Int), yB false])
def aDd (n : Nt) : List G.E → Int → G.Y → Rt := fun x0 x1 x2 => n [yS 15 x0, yI x1, yR 1 x2]
def X95x1 := aDd (xE aCR e [1, 0, 1, 0, 0] rX (q95x2 c e))
def B95x2 (c : TC0) (n2 : List G.F → Int → Int → List G.E → G.Y → Rt) (n1 : List G.E → Int → G.Y → Rt) (a8 : List G.F) (a9 : Int) (a7 : Int) (a0 : List G.E) (b103 : G.Y) : Rt :=
 cnd (decide (a9 < (List.length a8 : Int))) (ob (idx a8 a9) fun v0 =>
 cnd (decide (v0.name = b103)) (some [yI a7, yI a9, yB true]) (n2 a8 (IntKind.i64.wrap (a9 + (1 : Int))) a7 a0 b103)) (n1 a0 (IntKind.i64.wrap (a7 + (1 : Int))) b103)
def V95x2 (n : Nt) : List G.F → Int → Int → List G.E → G.Y → Rt := fun x0 x1 x2 x3 x4 => n [yS 4 x0, yI x1, yI x2, yS 15 x3, yR 1 x4]
def X95x2 (n1 : Nt) := V95x2 (xE aCR e [1, 0, 1, 0, 0, 1, 0, 0, 1, 1, 0, 0] wH (q95x6 c e n1))
theorem s95x0 : V95x0 (xF aCR c e) = B95x0 c (X95x1 c e) := by kernel_rfl
theorem s95x1 (n1 : Nt) : aDd (xA aCR c e [1, 0, 1, 0, 0] rX (lpK U0 rX n1 (q95x2 c e))) = B95x1 c (X95x2 c e n1) := by kernel_rfl
theorem s95x2 (n2 : Nt) (n1 : Nt) : V95x2 (xA aCR c e [1, 0, 1, 0, 0, 1, 0, 0, 1, 1, 0, 0] wH (lpK U0 wH n2 (q95x6 c e n1))) = B95x2 c (V95x2 n2) (aDd n1) := by kernel_rfl
def aAw (c : TC0) (L : Nat) (n1 : List G.E → Int → G.Y → Rt) : Nat → List G.F → Int → Int → List G.E → G.Y → Rt
 | 0 => fun _ _ _ _ _ => none
 | n + 1 => B95x2 c (aAw c L n1 n) n1
theorem u95x2 (n1 : Nt) (n : Nat) : V95x2 (xL aCR c L [1, 0, 1, 0, 0, 1, 0, 0, 1, 1, 0, 0] wH (q95x6 c (cu c L) n1) n) = aAw c L (aDd n1) n := by
 induction n with
 | zero => rfl
 | succ n ih => rw [iU, s95x2]; simp only [ih]; rfl
theorem w95x2 (n1 : Nt) : X95x2 c (cu c L) n1 = aAw c L (aDd n1) L := u95x2 c L n1 L
def aAx (c : TC0) (L : Nat) : Nat → List G.E → Int → G.Y → Rt
 | 0 => fun _ _ _ => none
 | n + 1 => B95x1 c (aAw c L (aAx c L n) L)
theorem u95x1 (n : Nat) : aDd (xL aCR c L [1, 0, 1, 0, 0] rX (q95x2 c (cu c L)) n) = aAx c L n := by
 induction n with
 | zero => rfl
 | succ n ih => rw [iU, s95x1]; simp only [w95x2, ih]; rfl
theorem w95x1 : X95x1 c (cu c L) = aAx c L L := u95x1 c L L
def F95 (c : TC0) (L : Nat) : List G.E → G.Y → Rt := B95x0 c (aAx c L L)
theorem e95 : V95x0 (xF aCR c (cu c L)) = F95 c L := by rw [s95x0]; simp only [w95x1]; rfl
theorem c95 (a0 : List G.E) (a1 : G.Y) (L n : Nat) : CTp L (n + 1) 95 [yS 15 a0, yR 1 a1] = F95 (CTp L n) L a0 a1 := by rw [← e95]; exact cg (x := aCR) (by kernel_rfl) (by kernel_rfl) L n _
def q96x0 (c : TC0) (e : Cu) : Kt := xK ii96
def q96x1 (c : TC0) (e : Cu) : Kt := xT ii96 c e [1, 1] (q96x0 c e)
def q96x2 (c : TC0) (e : Cu) : Kt := dW U0 0 (q96x1 c e)
def B96x0 (c : TC0) (k1 : Bool → G.E → Rt) (a0 : G.E) : Rt :=
 cnd (decide (a0.kind = (3 : Int))) (k1 (decide (a0.kind = (3 : Int))) a0) (cnd (decide (a0.kind = (5 : Int))) (k1 (decide (a0.kind = (5 : Int))) a0) (cnd (decide (a0.kind = (6 : Int))) (k1 (decide (a0.kind = (6 : Int))) a0) (k1 (decide (a0.kind = (7 : Int))) a0)))
def V96x0 (n : Nt) : G.E → Rt := fun x0 => n [yR 15 x0]
def B96x1 (c : TC0) (a5 : Bool) (b101 : G.E) : Rt :=
 cnd a5 (some [yS 4 b101.functions]) (some [yS 4 ([] : List G.F)])
def V96x1 (n : Nt) : Bool → G.E → Rt := fun x0 x1 => n [yB x0, yR 15 x1]
def X96x1 := V96x1 (xD ii96 e [1, 0, 1, 0, 1, 0] aFk (q96x2 c e))
theorem s96x0 : V96x0 (xF ii96 c e) = B96x0 c (X96x1 c e) := by kernel_rfl
theorem s96x1 : V96x1 (xA ii96 c e [1, 0, 1, 0, 1, 0] aFk (q96x2 c e)) = B96x1 c := by kernel_rfl
def J96x1 (c : TC0) (L : Nat) : Bool → G.E → Rt := B96x1 c
theorem j96x1 : X96x1 c (cu c L) = J96x1 c L := by rw [X96x1, bF, s96x1]; rfl
def F96 (c : TC0) (L : Nat) : G.E → Rt := B96x0 c (J96x1 c L)
theorem e96 : V96x0 (xF ii96 c (cu c L)) = F96 c L := by rw [s96x0]; simp only [j96x1]; rfl
theorem c96 (a0 : G.E) (L n : Nat) : CTp L (n + 1) 96 [yR 15 a0] = F96 (CTp L n) L a0 := by rw [← e96]; exact cg (x := ii96) (by kernel_rfl) (by kernel_rfl) L n _
def q97x0 (c : TC0) (e : Cu) : Kt := xK uM
def q97x1 (c : TC0) (e : Cu) : Kt := xT uM c e [1, 1] (q97x0 c e)
def q97x2 (c : TC0) (e : Cu) : Kt := dW U0 0 (q97x1 c e)
def q97x3 (c : TC0) (e : Cu) (n1 : Nt) : Kt := lpK U0 rW n1 (q97x2 c e)
def q97x4 (c : TC0) (e : Cu) (n1 : Nt) : Kt := dW U0 1 (q97x3 c e n1)
def q97x5 (c : TC0) (e : Cu) (n1 : Nt) : Kt := dW U0 2 (q97x4 c e n1)
def q97x6 (c : TC0) (e : Cu) (n1 : Nt) : Kt := dW U0 3 (q97x5 c e n1)
def q97x7 (c : TC0) (e : Cu) (n1 : Nt) : Kt := dW U0 5 (q97x5 c e n1)
def q97x8 (c : TC0) (e : Cu) (n2 : Nt) (n1 : Nt) : Kt := lpK U0 rV n2 (q97x6 c e n1)
def q97x9 (c : TC0) (e : Cu) (n2 : Nt) (n1 : Nt) : Kt := xT uM c e [1, 0, 0, 0, 1, 0, 0, 1, 1, 1, 0, 0, 0, 1] (q97x8 c e n2 n1)
def B97x0 (c : TC0) (e1 : List UInt8 → Int → Rt) (a0 : List UInt8) (a1 : Int) : Rt :=
 e1 a0 a1
def V97x0 (n : Nt) : List UInt8 → Int → Rt := fun x0 x1 => n [yT x0, yI x1]
def B97x1 (c : TC0) (n1 : List UInt8 → Int → Rt) (e2 : List UInt8 → Int → Rt) (e3 : Int → List UInt8 → Int → Rt) (a0 : List UInt8) (a1 : Int) : Rt :=
 cnd (decide (a1 < (List.length a0 : Int))) (ob (idx a0 a1) fun v0 =>
 obL [.bool] (c 119 [⟨(.int .u8), (v0.toNat : Int)⟩]) fun (r1 : Bool × Unit) =>
 cnd r1.1 (n1 a0 (IntKind.i64.wrap (a1 + (1 : Int)))) (ob (idx a0 a1) fun v2 =>
 cnd (decide ((v2.toNat : Int) = (59 : Int))) (e2 a0 a1) (obL [.bool] (c 120 [yT a0, yI a1, ⟨(.int .u8), (35 : Int)⟩, ⟨(.int .u8), (124 : Int)⟩]) fun (r3 : Bool × Unit) =>
 cnd r3.1 (e3 (1 : Int) a0 (IntKind.i64.wrap (a1 + (2 : Int)))) (some [yI a1, yB true])))) (some [yI a1, yB true])
def qK (n : Nt) : List UInt8 → Int → Rt := fun x0 x1 => n [yT x0, yI x1]
def X97x1 := qK (xE uM e [1, 0, 0, 0] rW (q97x2 c e))
def B97x2 (c : TC0) (k4 : Bool → List UInt8 → Int → Rt) (a0 : List UInt8) (a1 : Int) : Rt :=
 cnd (decide (a1 < (List.length a0 : Int))) (ob (idx a0 a1) fun v0 =>
 k4 (!decide ((v0.toNat : Int) = (10 : Int))) a0 a1) (k4 false a0 a1)
def aGk (n : Nt) : List UInt8 → Int → Rt := fun x0 x1 => n [yT x0, yI x1]
def X97x2 (n1 : Nt) := aGk (xE uM e [1, 0, 0, 0, 1, 0, 0, 1, 1, 1, 0, 0, 0] rV (q97x6 c e n1))
def B97x3 (c : TC0) (n3 : Int → List UInt8 → Int → Rt) (n1 : List UInt8 → Int → Rt) (a6 : Int) (a0 : List UInt8) (a1 : Int) : Rt :=
 cnd (decide ((0 : Int) < a6)) (cnd (decide ((List.length a0 : Int) ≤ a1)) (some [yI a1, yB false]) (obL [.bool] (c 120 [yT a0, yI a1, ⟨(.int .u8), (35 : Int)⟩, ⟨(.int .u8), (124 : Int)⟩]) fun (r0 : Bool × Unit) =>
 cnd r0.1 (n3 (IntKind.i64.wrap (a6 + (1 : Int))) a0 (IntKind.i64.wrap (a1 + (2 : Int)))) (obL [.bool] (c 120 [yT a0, yI a1, ⟨(.int .u8), (124 : Int)⟩, ⟨(.int .u8), (35 : Int)⟩]) fun (r1 : Bool × Unit) =>
 cnd r1.1 (n3 (IntKind.i64.wrap (a6 - (1 : Int))) a0 (IntKind.i64.wrap (a1 + (2 : Int)))) (n3 a6 a0 (IntKind.i64.wrap (a1 + (1 : Int))))))) (n1 a0 a1)
def V97x3 (n : Nt) : Int → List UInt8 → Int → Rt := fun x0 x1 x2 => n [yI x0, yT x1, yI x2]
def X97x3 (n1 : Nt) := V97x3 (xE uM e [1, 0, 0, 0, 1, 0, 0, 1, 1, 1, 1, 1, 0, 1, 1, 0, 0] wG (q97x7 c e n1))
def B97x4 (c : TC0) (n2 : List UInt8 → Int → Rt) (n1 : List UInt8 → Int → Rt) (a33 : Bool) (a0 : List UInt8) (a1 : Int) : Rt :=
 cnd a33 (n2 a0 (IntKind.i64.wrap (a1 + (1 : Int)))) (n1 a0 a1)
def V97x4 (n : Nt) : Bool → List UInt8 → Int → Rt := fun x0 x1 x2 => n [yB x0, yT x1, yI x2]
def X97x4 (n2 : Nt) (n1 : Nt) := V97x4 (xD uM e [1, 0, 0, 0, 1, 0, 0, 1, 1, 1, 0, 0, 0, 0, 1, 0] aFj (q97x9 c e n2 n1))
theorem s97x0 : V97x0 (xF uM c e) = B97x0 c (X97x1 c e) := by kernel_rfl
theorem s97x1 (n1 : Nt) : qK (xA uM c e [1, 0, 0, 0] rW (lpK U0 rW n1 (q97x2 c e))) = B97x1 c (qK n1) (X97x2 c e n1) (X97x3 c e n1) := by kernel_rfl
theorem s97x2 (n2 : Nt) (n1 : Nt) : aGk (xA uM c e [1, 0, 0, 0, 1, 0, 0, 1, 1, 1, 0, 0, 0] rV (lpK U0 rV n2 (q97x6 c e n1))) = B97x2 c (X97x4 c e n2 n1) := by kernel_rfl
theorem s97x3 (n3 : Nt) (n1 : Nt) : V97x3 (xA uM c e [1, 0, 0, 0, 1, 0, 0, 1, 1, 1, 1, 1, 0, 1, 1, 0, 0] wG (lpK U0 wG n3 (q97x7 c e n1))) = B97x3 c (V97x3 n3) (qK n1) := by kernel_rfl
theorem s97x4 (n2 : Nt) (n1 : Nt) : V97x4 (xA uM c e [1, 0, 0, 0, 1, 0, 0, 1, 1, 1, 0, 0, 0, 0, 1, 0] aFj (q97x9 c e n2 n1)) = B97x4 c (aGk n2) (qK n1) := by kernel_rfl
def W97x3 (c : TC0) (L : Nat) (n1 : List UInt8 → Int → Rt) : Nat → Int → List UInt8 → Int → Rt
 | 0 => fun _ _ _ => none
 | n + 1 => B97x3 c (W97x3 c L n1 n) n1
theorem u97x3 (n1 : Nt) (n : Nat) : V97x3 (xL uM c L [1, 0, 0, 0, 1, 0, 0, 1, 1, 1, 1, 1, 0, 1, 1, 0, 0] wG (q97x7 c (cu c L) n1) n) = W97x3 c L (qK n1) n := by
 induction n with
 | zero => rfl
 | succ n ih => rw [iU, s97x3]; simp only [ih]; rfl
theorem w97x3 (n1 : Nt) : X97x3 c (cu c L) n1 = W97x3 c L (qK n1) L := u97x3 c L n1 L
def J97x4 (c : TC0) (L : Nat) (n2 : List UInt8 → Int → Rt) (n1 : List UInt8 → Int → Rt) : Bool → List UInt8 → Int → Rt := B97x4 c n2 n1
theorem j97x4 (n2 : Nt) (n1 : Nt) : X97x4 c (cu c L) n2 n1 = J97x4 c L (aGk n2) (qK n1) := by rw [X97x4, bF, s97x4]; rfl
def W97x2 (c : TC0) (L : Nat) (n1 : List UInt8 → Int → Rt) : Nat → List UInt8 → Int → Rt
 | 0 => fun _ _ => none
 | n + 1 => B97x2 c (J97x4 c L (W97x2 c L n1 n) n1)
theorem u97x2 (n1 : Nt) (n : Nat) : aGk (xL uM c L [1, 0, 0, 0, 1, 0, 0, 1, 1, 1, 0, 0, 0] rV (q97x6 c (cu c L) n1) n) = W97x2 c L (qK n1) n := by
 induction n with
 | zero => rfl
 | succ n ih => rw [iU, s97x2]; simp only [j97x4, ih]; rfl
theorem w97x2 (n1 : Nt) : X97x2 c (cu c L) n1 = W97x2 c L (qK n1) L := u97x2 c L n1 L
def uE (c : TC0) (L : Nat) : Nat → List UInt8 → Int → Rt
 | 0 => fun _ _ => none
 | n + 1 => B97x1 c (uE c L n) (W97x2 c L (uE c L n) L) (W97x3 c L (uE c L n) L)
theorem u97x1 (n : Nat) : qK (xL uM c L [1, 0, 0, 0] rW (q97x2 c (cu c L)) n) = uE c L n := by
 induction n with
 | zero => rfl
 | succ n ih => rw [iU, s97x1]; simp only [w97x2, w97x3, ih]; rfl
theorem w97x1 : X97x1 c (cu c L) = uE c L L := u97x1 c L L
def F97 (c : TC0) (L : Nat) : List UInt8 → Int → Rt := B97x0 c (uE c L L)
theorem e97 : V97x0 (xF uM c (cu c L)) = F97 c L := by rw [s97x0]; simp only [w97x1]; rfl
theorem c97 (a0 : List UInt8) (a1 : Int) (L n : Nat) : CTp L (n + 1) 97 [yT a0, yI a1] = F97 (CTp L n) L a0 a1 := by rw [← e97]; exact cg (x := uM) (by kernel_rfl) (by kernel_rfl) L n _
def q98x0 (c : TC0) (e : Cu) : Kt := xK uL
def q98x1 (c : TC0) (e : Cu) : Kt := xT uL c e [1, 1, 1, 1] (q98x0 c e)
def aEe (c : TC0) (e : Cu) : Kt := dW U0 0 (q98x1 c e)
def q98x3 (c : TC0) (e : Cu) : Kt := xT uL c e [1, 1, 1, 0, 1, 0, 1, 1, 1, 1, 1, 1, 1, 0, 1, 1, 1] (aEe c e)
def q98x4 (c : TC0) (e : Cu) : Kt := xT uL c e [1, 1, 1, 1, 1, 1, 1, 1, 1] (q98x0 c e)
def q98x5 (c : TC0) (e : Cu) : Kt := dW U0 1 (q98x4 c e)
def aGy (c : TC0) (k1 : Bool → Int → G.K → G.X → G.K → G.X → Rt) (k2 : Int → G.K → G.X → G.K → G.X → Rt) (k3 : Int → G.K → G.X → G.K → G.X → Rt) (k4 : Bool → Int → Int → G.K → G.X → G.K → G.X → Rt) (a0 : List UInt8) (a1 : Int) : Rt :=
 ob (idx a0 a1) fun v0 =>
 cnd (decide ((v0.toNat : Int) = (40 : Int))) (some [yR 19 (G.K.mk (1 : Int) a1 ([] : List UInt8) ([] : List UInt8) ([] : List UInt8)), yI (IntKind.i64.wrap (a1 + (1 : Int))), yR 18 (G.X.mk (0 : Int) (0 : Int))]) (cnd (decide ((v0.toNat : Int) = (41 : Int))) (some [yR 19 (G.K.mk (2 : Int) a1 ([] : List UInt8) ([] : List UInt8) ([] : List UInt8)), yI (IntKind.i64.wrap (a1 + (1 : Int))), yR 18 (G.X.mk (0 : Int) (0 : Int))]) (cnd (decide ((v0.toNat : Int) = (39 : Int))) (some [yR 19 (G.K.mk (4 : Int) a1 ([] : List UInt8) ([] : List UInt8) ([] : List UInt8)), yI (IntKind.i64.wrap (a1 + (1 : Int))), yR 18 (G.X.mk (0 : Int) (0 : Int))]) (cnd (decide ((v0.toNat : Int) = (34 : Int))) (obL [.str, i6, .rc 18] (c 121 [yT a0, yI (IntKind.i64.wrap (a1 + (1 : Int))), ⟨(.int .u8), (34 : Int)⟩]) fun (r1 : List UInt8 × Int × G.X × Unit) =>
 cnd (decide (r1.2.2.1.err = (0 : Int))) (k1 (decide ((200 : Int) < (List.length r1.1 : Int))) r1.2.1 (G.K.mk (7 : Int) a1 ([] : List UInt8) r1.1 ([] : List UInt8)) r1.2.2.1 (G.K.mk (0 : Int) (0 : Int) ([] : List UInt8) ([] : List UInt8) ([] : List UInt8)) (G.X.mk (0 : Int) (0 : Int))) (k1 false r1.2.1 (G.K.mk (7 : Int) a1 ([] : List UInt8) r1.1 ([] : List UInt8)) r1.2.2.1 (G.K.mk (0 : Int) (0 : Int) ([] : List UInt8) ([] : List UInt8) ([] : List UInt8)) (G.X.mk (0 : Int) (0 : Int)))) (cnd (decide ((v0.toNat : Int) = (124 : Int))) (obL [.str, i6, .rc 18] (c 121 [yT a0, yI (IntKind.i64.wrap (a1 + (1 : Int))), ⟨(.int .u8), (124 : Int)⟩]) fun (r2 : List UInt8 × Int × G.X × Unit) =>
 cnd (decide (r2.2.2.1.err = (0 : Int))) (obL [.rc 18] (c 122 [yR 19 (G.K.mk (6 : Int) a1 ([] : List UInt8) r2.1 ([] : List UInt8)), yB true]) fun (r3 : G.X × Unit) =>
 k2 r2.2.1 (G.K.mk (6 : Int) a1 ([] : List UInt8) r2.1 ([] : List UInt8)) r3.1 (G.K.mk (0 : Int) (0 : Int) ([] : List UInt8) ([] : List UInt8) ([] : List UInt8)) (G.X.mk (0 : Int) (0 : Int))) (k2 r2.2.1 (G.K.mk (6 : Int) a1 ([] : List UInt8) r2.1 ([] : List UInt8)) r2.2.2.1 (G.K.mk (0 : Int) (0 : Int) ([] : List UInt8) ([] : List UInt8) ([] : List UInt8)) (G.X.mk (0 : Int) (0 : Int)))) (obL [.bool] (c 123 [⟨(.int .u8), (v0.toNat : Int)⟩]) fun (r4 : Bool × Unit) =>
 cnd (!r4.1) (obL [.rc 18] (c 81 [yI (12 : Int), yI a1]) fun (r5 : G.X × Unit) =>
 some [yR 19 (G.K.mk (0 : Int) a1 ([] : List UInt8) ([] : List UInt8) ([] : List UInt8)), yI a1, yR 18 r5.1]) (obL [i6] (c 124 [yT a0, yI a1]) fun (r6 : Int × Unit) =>
 ob (slc a0 a1 r6.1) fun v7 =>
 obL [.bool] (c 120 [yT a0, yI r6.1, ⟨(.int .u8), (58 : Int)⟩, ⟨(.int .u8), (58 : Int)⟩]) fun (r8 : Bool × Unit) =>
 cnd r8.1 (obL [.rc 19, i6, .rc 18] (c 125 [yT a0, yR 19 (G.K.mk (0 : Int) a1 ([] : List UInt8) ([] : List UInt8) ([] : List UInt8)), yT v7, yI r6.1]) fun (r9 : G.K × Int × G.X × Unit) =>
 some [yR 19 r9.1, yI r9.2.1, yR 18 r9.2.2.1]) (obL [.str, .str, .bool] (c 126 [yT v7]) fun (r10 : List UInt8 × List UInt8 × Bool × Unit) =>
 cnd (decide (v7 = ([46] : List UInt8))) (k3 r6.1 (G.K.mk (3 : Int) a1 ([] : List UInt8) ([] : List UInt8) ([] : List UInt8)) (G.X.mk (0 : Int) (0 : Int)) (G.K.mk (0 : Int) (0 : Int) ([] : List UInt8) ([] : List UInt8) ([] : List UInt8)) (G.X.mk (0 : Int) (0 : Int))) (cnd r10.2.2.1 (obL [.str] (c 127 [yT r10.2.1]) fun (r11 : List UInt8 × Unit) =>
 cnd (decide (r11.1 = ([48] : List UInt8))) (obL [.rc 18] (c 81 [yI (12 : Int), yI a1]) fun (r12 : G.X × Unit) =>
 some [yR 19 (G.K.mk (0 : Int) a1 ([] : List UInt8) ([] : List UInt8) ([] : List UInt8)), yI r6.1, yR 18 r12.1]) (obL [.str] (c 127 [yT r10.1]) fun (r13 : List UInt8 × Unit) =>
 obL [.str] (c 127 [yT r10.2.1]) fun (r14 : List UInt8 × Unit) =>
 obL [.str, .str] (c 76 [yT r13.1, yT r14.1]) fun (r15 : List UInt8 × List UInt8 × Unit) =>
 obL [i6] (c 128 [yT r15.1]) fun (r16 : Int × Unit) =>
 cnd (decide ((100 : Int) < r16.1)) (k4 true a1 r6.1 (G.K.mk (5 : Int) a1 ([] : List UInt8) r15.1 r15.2.1) (G.X.mk (0 : Int) (0 : Int)) (G.K.mk (0 : Int) (0 : Int) ([] : List UInt8) ([] : List UInt8) ([] : List UInt8)) (G.X.mk (0 : Int) (0 : Int))) (obL [i6] (c 128 [yT r15.2.1]) fun (r17 : Int × Unit) =>
 k4 (decide ((100 : Int) < r17.1)) a1 r6.1 (G.K.mk (5 : Int) a1 ([] : List UInt8) r15.1 r15.2.1) (G.X.mk (0 : Int) (0 : Int)) (G.K.mk (0 : Int) (0 : Int) ([] : List UInt8) ([] : List UInt8) ([] : List UInt8)) (G.X.mk (0 : Int) (0 : Int))))) (obL [.rc 18] (c 122 [yR 19 (G.K.mk (6 : Int) a1 ([] : List UInt8) v7 ([] : List UInt8)), yB false]) fun (r18 : G.X × Unit) =>
 k3 r6.1 (G.K.mk (6 : Int) a1 ([] : List UInt8) v7 ([] : List UInt8)) r18.1 (G.K.mk (0 : Int) (0 : Int) ([] : List UInt8) ([] : List UInt8) ([] : List UInt8)) (G.X.mk (0 : Int) (0 : Int)))))))))))
def V98x0 (n : Nt) : List UInt8 → Int → Rt := fun x0 x1 => n [yT x0, yI x1]
def B98x1 (c : TC0) (k5 : Int → G.K → G.X → G.K → G.X → Rt) (a65 : Bool) (a1 : Int) (b107 : G.K) (b108 : G.X) (b104 : G.K) (b106 : G.X) : Rt :=
 cnd a65 (obL [.rc 18] (c 81 [yI (2 : Int), yI b107.pos]) fun (r0 : G.X × Unit) =>
 k5 a1 b107 r0.1 b104 b106) (k5 a1 b107 b108 b104 b106)
def V98x1 (n : Nt) : Bool → Int → G.K → G.X → G.K → G.X → Rt := fun x0 x1 x2 x3 x4 x5 => n [yB x0, yI x1, yR 19 x2, yR 18 x3, yR 19 x4, yR 18 x5]
def X98x1 := V98x1 (xD uL e [1, 1, 1, 0, 1, 0, 1, 1, 1, 1, 1, 1, 1, 0, 1, 1, 0, 1, 0] aFi (q98x3 c e))
def B98x2 (c : TC0) (a1 : Int) (b107 : G.K) (b108 : G.X) (b104 : G.K) (b106 : G.X) : Rt :=
 some [yR 19 b107, yI a1, yR 18 b108]
def V98x2 (n : Nt) : Int → G.K → G.X → G.K → G.X → Rt := fun x0 x1 x2 x3 x4 => n [yI x0, yR 19 x1, yR 18 x2, yR 19 x3, yR 18 x4]
def X98x2 := V98x2 (xD uL e [1, 1, 1, 0, 1, 0, 1, 1, 1, 1, 1, 1, 1, 1, 1, 0, 1, 1, 1, 0] aFh (aEe c e))
def B98x3 (c : TC0) (a10 : Int) (b107 : G.K) (b108 : G.X) (b104 : G.K) (b106 : G.X) : Rt :=
 some [yR 19 b107, yI a10, yR 18 b108]
def V98x3 (n : Nt) : Int → G.K → G.X → G.K → G.X → Rt := fun x0 x1 x2 x3 x4 => n [yI x0, yR 19 x1, yR 18 x2, yR 19 x3, yR 18 x4]
def X98x3 := V98x3 (xD uL e [1, 1, 1, 1, 1, 1, 1, 1, 1, 0] aFg (q98x0 c e))
def B98x4 (c : TC0) (k3 : Int → G.K → G.X → G.K → G.X → Rt) (a163 : Bool) (a1 : Int) (a10 : Int) (b107 : G.K) (b108 : G.X) (b104 : G.K) (b106 : G.X) : Rt :=
 cnd a163 (obL [.rc 18] (c 81 [yI (2 : Int), yI a1]) fun (r0 : G.X × Unit) =>
 some [yR 19 b107, yI a10, yR 18 r0.1]) (k3 a10 b107 b108 b104 b106)
def V98x4 (n : Nt) : Bool → Int → Int → G.K → G.X → G.K → G.X → Rt := fun x0 x1 x2 x3 x4 x5 x6 => n [yB x0, yI x1, yI x2, yR 19 x3, yR 18 x4, yR 19 x5, yR 18 x6]
def X98x4 := V98x4 (xD uL e [1, 1, 1, 1, 1, 1, 1, 1, 0, 0, 1, 1, 1, 0, 1, 1, 1, 1, 0] aFf (q98x5 c e))
def B98x5 (c : TC0) (a1 : Int) (b107 : G.K) (b108 : G.X) (b104 : G.K) (b106 : G.X) : Rt :=
 some [yR 19 b107, yI a1, yR 18 b108]
def V98x5 (n : Nt) : Int → G.K → G.X → G.K → G.X → Rt := fun x0 x1 x2 x3 x4 => n [yI x0, yR 19 x1, yR 18 x2, yR 19 x3, yR 18 x4]
def X98x5 := V98x5 (xD uL e [1, 1, 1, 0, 1, 0, 1, 1, 1, 1, 1, 1, 1, 0, 1, 1, 1, 0] aFe (aEe c e))
theorem s98x0 : V98x0 (xF uL c e) = aGy c (X98x1 c e) (X98x2 c e) (X98x3 c e) (X98x4 c e) := by kernel_rfl
theorem s98x1 : V98x1 (xA uL c e [1, 1, 1, 0, 1, 0, 1, 1, 1, 1, 1, 1, 1, 0, 1, 1, 0, 1, 0] aFi (q98x3 c e)) = B98x1 c (X98x5 c e) := by kernel_rfl
theorem s98x2 : V98x2 (xA uL c e [1, 1, 1, 0, 1, 0, 1, 1, 1, 1, 1, 1, 1, 1, 1, 0, 1, 1, 1, 0] aFh (aEe c e)) = B98x2 c := by kernel_rfl
theorem s98x3 : V98x3 (xA uL c e [1, 1, 1, 1, 1, 1, 1, 1, 1, 0] aFg (q98x0 c e)) = B98x3 c := by kernel_rfl
theorem s98x4 : V98x4 (xA uL c e [1, 1, 1, 1, 1, 1, 1, 1, 0, 0, 1, 1, 1, 0, 1, 1, 1, 1, 0] aFf (q98x5 c e)) = B98x4 c (X98x3 c e) := by kernel_rfl
theorem s98x5 : V98x5 (xA uL c e [1, 1, 1, 0, 1, 0, 1, 1, 1, 1, 1, 1, 1, 0, 1, 1, 1, 0] aFe (aEe c e)) = B98x5 c := by kernel_rfl
def J98x2 (c : TC0) (L : Nat) : Int → G.K → G.X → G.K → G.X → Rt := B98x2 c
theorem j98x2 : X98x2 c (cu c L) = J98x2 c L := by rw [X98x2, bF, s98x2]; rfl
def J98x3 (c : TC0) (L : Nat) : Int → G.K → G.X → G.K → G.X → Rt := B98x3 c
theorem j98x3 : X98x3 c (cu c L) = J98x3 c L := by rw [X98x3, bF, s98x3]; rfl
def J98x4 (c : TC0) (L : Nat) : Bool → Int → Int → G.K → G.X → G.K → G.X → Rt := B98x4 c (J98x3 c L)
theorem j98x4 : X98x4 c (cu c L) = J98x4 c L := by rw [X98x4, bF, s98x4]; simp only [j98x3]; rfl
def J98x5 (c : TC0) (L : Nat) : Int → G.K → G.X → G.K → G.X → Rt := B98x5 c
theorem j98x5 : X98x5 c (cu c L) = J98x5 c L := by rw [X98x5, bF, s98x5]; rfl
def J98x1 (c : TC0) (L : Nat) : Bool → Int → G.K → G.X → G.K → G.X → Rt := B98x1 c (J98x5 c L)
theorem j98x1 : X98x1 c (cu c L) = J98x1 c L := by rw [X98x1, bF, s98x1]; simp only [j98x5]; rfl
def F98 (c : TC0) (L : Nat) : List UInt8 → Int → Rt := aGy c (J98x1 c L) (J98x2 c L) (J98x3 c L) (J98x4 c L)
theorem e98 : V98x0 (xF uL c (cu c L)) = F98 c L := by rw [s98x0]; simp only [j98x1, j98x2, j98x3, j98x4]; rfl
theorem c98 (a0 : List UInt8) (a1 : Int) (L n : Nat) : CTp L (n + 1) 98 [yT a0, yI a1] = F98 (CTp L n) L a0 a1 := by rw [← e98]; exact cg (x := uL) (by kernel_rfl) (by kernel_rfl) L n _
end
end Go.TV
