import Derived.Test.YtgeanbfoeopjfaaGreatDoorKq
import Derived.Test.YtgeanbfoeopjfaaGreatDoorKu
import Derived.Test.YtgeanbfoeopjfaaGreatDoorKs
set_option linter.unusedVariables false
set_option linter.unusedSimpArgs false
set_option linter.constructorNameAsVariable false
namespace Go.TV
open Go.AI Go.PI Go.Proofs
set_option maxRecDepth 20000
noncomputable section
variable (c : TC0) (e : Cu) (L : Nat)
def q92x0 (c : TC0) (e : Cu) : Kt := xK sU
def q92x1 (c : TC0) (e : Cu) : Kt := xT sU c e [1, 1, 1, 1] (q92x0 c e)
def q92x2 (c : TC0) (e : Cu) : Kt := dD U0 0 (q92x1 c e)
def q92x3 (c : TC0) (e : Cu) (n1 : Nt) : Kt := lpK U0 qD n1 (q92x2 c e)
def q92x4 (c : TC0) (e : Cu) (n1 : Nt) : Kt := dD U0 1 (q92x3 c e n1)
def q92x5 (c : TC0) (e : Cu) (n1 : Nt) : Kt := xT sU c e [1, 1, 1, 0, 0, 0, 1, 0, 1] (q92x4 c e n1)
def q92x6 (c : TC0) (e : Cu) : Kt := xT sU c e [1, 1, 1, 1, 0, 1, 1] (q92x0 c e)
def q92x7 (c : TC0) (e : Cu) : Kt := dD U0 3 (q92x6 c e)
def B92x0 (c : TC0) (e1 : Int → List G.O → G.P → G.O → G.O → G.X → Rt) (a1 : Int) (b0 : G.P) : Rt :=
 obL [.rc 2] (c 63 []) fun (r0 : G.O × Unit) =>
 e1 a1 ([] : List G.O) b0 r0.1 (G.O.mk (0 : Int) ([] : List UInt8) ([] : List UInt8) (G.Y.mk ([] : List UInt8) ([] : List UInt8)) ([] : List UInt8) ([] : List G.O)) (G.X.mk (0 : Int) (0 : Int))
def V92x0 (n : Nt) : Int → G.P → Rt := fun x0 x1 => n [yI x0, yR 19 x1]
def B92x1 (c : TC0) (k2 : Bool → List G.O → Int → G.P → G.O → G.O → G.X → Rt) (k3 : List G.O → G.P → G.O → G.O → G.X → Rt) (a1 : Int) (a6 : List G.O) (b0 : G.P) (b107 : G.O) (b104 : G.O) (b105 : G.X) : Rt :=
 ob (idx b0.t b0.pos) fun v0 =>
 cnd (!decide (v0.kind = (2 : Int))) (ob (idx b0.t b0.pos) fun v1 =>
 cnd (decide (v1.kind = (3 : Int))) (k2 (decide ((0 : Int) < (List.length a6 : Int))) a6 a1 b0 b107 b104 b105) (k2 false a6 a1 b0 b107 b104 b105)) (k3 a6 b0 b107 b104 b105)
def aFl (n : Nt) : Int → List G.O → G.P → G.O → G.O → G.X → Rt := fun x0 x1 x2 x3 x4 x5 => n [yI x0, yS 2 x1, yR 19 x2, yR 2 x3, yR 2 x4, yR 17 x5]
def X92x1 := aFl (xE sU e [1, 1, 1, 0, 0, 0] qD (q92x2 c e))
def B92x2 (c : TC0) (k3 : List G.O → G.P → G.O → G.O → G.X → Rt) (n1 : Int → List G.O → G.P → G.O → G.O → G.X → Rt) (a43 : Bool) (a6 : List G.O) (a1 : Int) (b0 : G.P) (b107 : G.O) (b104 : G.O) (b105 : G.X) : Rt :=
 cnd a43 (obL [.rc 2, .rc 17, .rc 19] (c 77 [yI a1, yR 19 (G.P.mk b0.l b0.current b0.t (IntKind.i64.wrap (b0.pos + (1 : Int))))]) fun (r0 : G.O × G.X × G.P × Unit) =>
 cnd (!decide (r0.2.1.err = (0 : Int))) (some [yR 2 (G.O.mk (0 : Int) ([] : List UInt8) ([] : List UInt8) (G.Y.mk ([] : List UInt8) ([] : List UInt8)) ([] : List UInt8) ([] : List G.O)), yR 17 r0.2.1, yR 19 r0.2.2.1]) (ob (idx r0.2.2.1.t r0.2.2.1.pos) fun v1 =>
 cnd (decide (v1.kind = (2 : Int))) (k3 a6 r0.2.2.1 r0.1 b104 b105) (cnd (decide (v1.kind = (0 : Int))) (obL [.rc 17] (c 76 [yI (11 : Int), yI v1.pos]) fun (r2 : G.X × Unit) =>
 some [yR 2 (G.O.mk (0 : Int) ([] : List UInt8) ([] : List UInt8) (G.Y.mk ([] : List UInt8) ([] : List UInt8)) ([] : List UInt8) ([] : List G.O)), yR 17 r2.1, yR 19 r0.2.2.1]) (obL [.rc 17] (c 76 [yI (12 : Int), yI v1.pos]) fun (r3 : G.X × Unit) =>
 some [yR 2 (G.O.mk (0 : Int) ([] : List UInt8) ([] : List UInt8) (G.Y.mk ([] : List UInt8) ([] : List UInt8)) ([] : List UInt8) ([] : List G.O)), yR 17 r3.1, yR 19 r0.2.2.1])))) (obL [.rc 2, .rc 17, .rc 19] (c 77 [yI a1, yR 19 b0]) fun (r4 : G.O × G.X × G.P × Unit) =>
 cnd (!decide (r4.2.1.err = (0 : Int))) (some [yR 2 (G.O.mk (0 : Int) ([] : List UInt8) ([] : List UInt8) (G.Y.mk ([] : List UInt8) ([] : List UInt8)) ([] : List UInt8) ([] : List G.O)), yR 17 r4.2.1, yR 19 r4.2.2.1]) (chk (Nat.ble ((List.length a6 + List.length ([r4.1] : List G.O)) * 112) 1073741824) <|
 n1 a1 (a6 ++ ([r4.1] : List G.O)) r4.2.2.1 b107 b104 b105))
def V92x2 (n : Nt) : Bool → List G.O → Int → G.P → G.O → G.O → G.X → Rt := fun x0 x1 x2 x3 x4 x5 x6 => n [yB x0, yS 2 x1, yI x2, yR 19 x3, yR 2 x4, yR 2 x5, yR 17 x6]
def X92x2 (n1 : Nt) := V92x2 (xD sU e [1, 1, 1, 0, 0, 0, 1, 0, 0, 1, 0] aEf (q92x5 c e n1))
def B92x3 (c : TC0) (e4 : List G.O → Int → G.P → G.O → G.O → G.X → Rt) (a6 : List G.O) (b0 : G.P) (b107 : G.O) (b104 : G.O) (b105 : G.X) : Rt :=
 e4 a6 (IntKind.i64.wrap ((List.length a6 : Int) - (1 : Int))) (G.P.mk b0.l b0.current b0.t (IntKind.i64.wrap (b0.pos + (1 : Int)))) b107 b104 b105
def V92x3 (n : Nt) : List G.O → G.P → G.O → G.O → G.X → Rt := fun x0 x1 x2 x3 x4 => n [yS 2 x0, yR 19 x1, yR 2 x2, yR 2 x3, yR 17 x4]
def X92x3 := V92x3 (xD sU e [1, 1, 1, 1, 0] aEe (q92x0 c e))
def B92x4 (c : TC0) (n4 : List G.O → Int → G.P → G.O → G.O → G.X → Rt) (a6 : List G.O) (a13 : Int) (b0 : G.P) (b107 : G.O) (b104 : G.O) (b105 : G.X) : Rt :=
 cnd (decide ((0 : Int) ≤ a13)) (ob (idx a6 a13) fun v0 =>
 obL [.rc 2] (c 69 [yR 2 v0, yR 2 b107]) fun (r1 : G.O × Unit) =>
 n4 a6 (IntKind.i64.wrap (a13 - (1 : Int))) b0 r1.1 b104 b105) (some [yR 2 b107, yR 17 (G.X.mk (0 : Int) (0 : Int)), yR 19 b0])
def V92x4 (n : Nt) : List G.O → Int → G.P → G.O → G.O → G.X → Rt := fun x0 x1 x2 x3 x4 x5 => n [yS 2 x0, yI x1, yR 19 x2, yR 2 x3, yR 2 x4, yR 17 x5]
def X92x4 := V92x4 (xE sU e [1, 1, 1, 1, 0, 1, 0, 1, 0, 0] uO (q92x7 c e))
theorem s92x0 : V92x0 (xF sU c e) = B92x0 c (X92x1 c e) := by kernel_rfl
theorem s92x1 (n1 : Nt) : aFl (xA sU c e [1, 1, 1, 0, 0, 0] qD (lpK U0 qD n1 (q92x2 c e))) = B92x1 c (X92x2 c e n1) (X92x3 c e) := by kernel_rfl
theorem s92x2 (n1 : Nt) : V92x2 (xA sU c e [1, 1, 1, 0, 0, 0, 1, 0, 0, 1, 0] aEf (q92x5 c e n1)) = B92x2 c (X92x3 c e) (aFl n1) := by kernel_rfl
theorem s92x3 : V92x3 (xA sU c e [1, 1, 1, 1, 0] aEe (q92x0 c e)) = B92x3 c (X92x4 c e) := by kernel_rfl
theorem s92x4 (n4 : Nt) : V92x4 (xA sU c e [1, 1, 1, 1, 0, 1, 0, 1, 0, 0] uO (lpK U0 uO n4 (q92x7 c e))) = B92x4 c (V92x4 n4) := by kernel_rfl
def W92x4 (c : TC0) (L : Nat) : Nat → List G.O → Int → G.P → G.O → G.O → G.X → Rt
 | 0 => fun _ _ _ _ _ _ => none
 | n + 1 => B92x4 c (W92x4 c L n)
theorem u92x4 (n : Nat) : V92x4 (xL sU c L [1, 1, 1, 1, 0, 1, 0, 1, 0, 0] uO (q92x7 c (cu c L)) n) = W92x4 c L n := by
 induction n with
 | zero => rfl
 | succ n ih => rw [gW, s92x4]; simp only [ih]; rfl
theorem w92x4 : X92x4 c (cu c L) = W92x4 c L L := u92x4 c L L
def J92x3 (c : TC0) (L : Nat) : List G.O → G.P → G.O → G.O → G.X → Rt := B92x3 c (W92x4 c L L)
theorem j92x3 : X92x3 c (cu c L) = J92x3 c L := by rw [X92x3, aY, s92x3]; simp only [w92x4]; rfl
def J92x2 (c : TC0) (L : Nat) (n1 : Int → List G.O → G.P → G.O → G.O → G.X → Rt) : Bool → List G.O → Int → G.P → G.O → G.O → G.X → Rt := B92x2 c (J92x3 c L) n1
theorem j92x2 (n1 : Nt) : X92x2 c (cu c L) n1 = J92x2 c L (aFl n1) := by rw [X92x2, aY, s92x2]; simp only [j92x3]; rfl
def W92x1 (c : TC0) (L : Nat) : Nat → Int → List G.O → G.P → G.O → G.O → G.X → Rt
 | 0 => fun _ _ _ _ _ _ => none
 | n + 1 => B92x1 c (J92x2 c L (W92x1 c L n)) (J92x3 c L)
theorem u92x1 (n : Nat) : aFl (xL sU c L [1, 1, 1, 0, 0, 0] qD (q92x2 c (cu c L)) n) = W92x1 c L n := by
 induction n with
 | zero => rfl
 | succ n ih => rw [gW, s92x1]; simp only [j92x2, j92x3, ih]; rfl
theorem w92x1 : X92x1 c (cu c L) = W92x1 c L L := u92x1 c L L
def F92 (c : TC0) (L : Nat) : Int → G.P → Rt := B92x0 c (W92x1 c L L)
theorem e92 : V92x0 (xF sU c (cu c L)) = F92 c L := by rw [s92x0]; simp only [w92x1]; rfl
theorem c92 (a1 : Int) (b0 : G.P) (L n : Nat) : CTp L (n + 1) 92 [yI a1, yR 19 b0] = F92 (CTp L n) L a1 b0 := by rw [← e92]; exact cg (x := sU) (by kernel_rfl) (by kernel_rfl) L n _
def q93x0 (c : TC0) (e : Cu) : Kt := xK aCx
def q93x1 (c : TC0) (e : Cu) : Kt := xT aCx c e [1, 1, 1, 1] (q93x0 c e)
def q93x2 (c : TC0) (e : Cu) : Kt := xT aCx c e [1, 1, 1, 1, 1] (q93x0 c e)
def q93x3 (c : TC0) (e : Cu) : Kt := dD U0 0 (q93x2 c e)
def B93x0 (c : TC0) (k1 : Bool → List UInt8 → List UInt8 → G.A → G.Y → Rt) (a0 : List G.A) (a1 : List UInt8) (a2 : List UInt8) : Rt :=
 obL [.rc 5, .bool] (c 122 [yS 5 a0, yT a1]) fun (r0 : G.A × Bool × Unit) =>
 cnd (!r0.2.1) (some [yR 1 (G.Y.mk ([] : List UInt8) ([] : List UInt8)), yI (13 : Int)]) (cnd (decide ((List.length a2 : Int) < (1 : Int))) (k1 true a1 a2 r0.1 (G.Y.mk ([] : List UInt8) ([] : List UInt8))) (k1 (decide ((40 : Int) < (List.length a2 : Int))) a1 a2 r0.1 (G.Y.mk ([] : List UInt8) ([] : List UInt8))))
def V93x0 (n : Nt) : List G.A → List UInt8 → List UInt8 → Rt := fun x0 x1 x2 => n [yS 5 x0, yT x1, yT x2]
def B93x1 (c : TC0) (e2 : Int → List UInt8 → List UInt8 → G.A → G.Y → Rt) (a27 : Bool) (a1 : List UInt8) (a2 : List UInt8) (b108 : G.A) (b106 : G.Y) : Rt :=
 cnd a27 (some [yR 1 (G.Y.mk ([] : List UInt8) ([] : List UInt8)), yI (3 : Int)]) (e2 (0 : Int) a1 a2 b108 b106)
def V93x1 (n : Nt) : Bool → List UInt8 → List UInt8 → G.A → G.Y → Rt := fun x0 x1 x2 x3 x4 => n [yB x0, yT x1, yT x2, yR 5 x3, yR 1 x4]
def X93x1 := V93x1 (xD aCx e [1, 1, 1, 0, 1, 0] aEd (q93x1 c e))
def B93x2 (c : TC0) (n2 : Int → List UInt8 → List UInt8 → G.A → G.Y → Rt) (a10 : Int) (a1 : List UInt8) (a2 : List UInt8) (b108 : G.A) (b106 : G.Y) : Rt :=
 cnd (decide (a10 < (List.length b108.imports : Int))) (ob (idx b108.imports a10) fun v0 =>
 cnd (decide (v0.name = a2)) (ob (idx b108.imports a10) fun v1 =>
 some [yR 1 v1, yI (0 : Int)]) (n2 (IntKind.i64.wrap (a10 + (1 : Int))) a1 a2 b108 b106)) (some [yR 1 (G.Y.mk a1 a2), yI (0 : Int)])
def V93x2 (n : Nt) : Int → List UInt8 → List UInt8 → G.A → G.Y → Rt := fun x0 x1 x2 x3 x4 => n [yI x0, yT x1, yT x2, yR 5 x3, yR 1 x4]
def X93x2 := V93x2 (xE aCx e [1, 1, 1, 1, 0, 1, 0, 0] uN (q93x3 c e))
theorem s93x0 : V93x0 (xF aCx c e) = B93x0 c (X93x1 c e) := by kernel_rfl
theorem s93x1 : V93x1 (xA aCx c e [1, 1, 1, 0, 1, 0] aEd (q93x1 c e)) = B93x1 c (X93x2 c e) := by kernel_rfl
theorem s93x2 (n2 : Nt) : V93x2 (xA aCx c e [1, 1, 1, 1, 0, 1, 0, 0] uN (lpK U0 uN n2 (q93x3 c e))) = B93x2 c (V93x2 n2) := by kernel_rfl
def W93x2 (c : TC0) (L : Nat) : Nat → Int → List UInt8 → List UInt8 → G.A → G.Y → Rt
 | 0 => fun _ _ _ _ _ => none
 | n + 1 => B93x2 c (W93x2 c L n)
theorem u93x2 (n : Nat) : V93x2 (xL aCx c L [1, 1, 1, 1, 0, 1, 0, 0] uN (q93x3 c (cu c L)) n) = W93x2 c L n := by
 induction n with
 | zero => rfl
 | succ n ih => rw [gW, s93x2]; simp only [ih]; rfl
theorem w93x2 : X93x2 c (cu c L) = W93x2 c L L := u93x2 c L L
def J93x1 (c : TC0) (L : Nat) : Bool → List UInt8 → List UInt8 → G.A → G.Y → Rt := B93x1 c (W93x2 c L L)
theorem j93x1 : X93x1 c (cu c L) = J93x1 c L := by rw [X93x1, aY, s93x1]; simp only [w93x2]; rfl
def F93 (c : TC0) (L : Nat) : List G.A → List UInt8 → List UInt8 → Rt := B93x0 c (J93x1 c L)
theorem e93 : V93x0 (xF aCx c (cu c L)) = F93 c L := by rw [s93x0]; simp only [j93x1]; rfl
theorem c93 (a0 : List G.A) (a1 : List UInt8) (a2 : List UInt8) (L n : Nat) : CTp L (n + 1) 93 [yS 5 a0, yT a1, yT a2] = F93 (CTp L n) L a0 a1 a2 := by rw [← e93]; exact cg (x := aCx) (by kernel_rfl) (by kernel_rfl) L n _
def q94x0 (c : TC0) (e : Cu) : Kt := xK ii94
def q94x1 (c : TC0) (e : Cu) : Kt := xT ii94 c e [1, 1] (q94x0 c e)
def B94x0 (c : TC0) (k1 : Bool → Int → G.O → Rt) (a0 : G.O) (a1 : Int) : Rt :=
 cnd (!decide ((List.length a0.pair : Int) = (2 : Int))) (k1 true a1 a0) (k1 (decide (a1 ≤ (1 : Int))) a1 a0)
def V94x0 (n : Nt) : G.O → Int → Rt := fun x0 x1 => n [yR 2 x0, yI x1]
def B94x1 (c : TC0) (a13 : Bool) (a1 : Int) (b102 : G.O) : Rt :=
 cnd a13 (some [yI (1 : Int)]) (ob (idx b102.pair (0 : Int)) fun v0 =>
 obL [i6] (c 94 [yR 2 v0, yI (IntKind.i64.wrap (a1 - (1 : Int)))]) fun (r1 : Int × Unit) =>
 cnd (decide (a1 ≤ (IntKind.i64.wrap ((1 : Int) + r1.1)))) (some [yI a1]) (ob (idx b102.pair (1 : Int)) fun v2 =>
 obL [i6] (c 94 [yR 2 v2, yI (IntKind.i64.wrap (a1 - (IntKind.i64.wrap ((1 : Int) + r1.1))))]) fun (r3 : Int × Unit) =>
 some [yI (IntKind.i64.wrap ((IntKind.i64.wrap ((1 : Int) + r1.1)) + r3.1))]))
def V94x1 (n : Nt) : Bool → Int → G.O → Rt := fun x0 x1 x2 => n [yB x0, yI x1, yR 2 x2]
def X94x1 := V94x1 (xD ii94 e [1, 0, 1, 0] aEc (q94x1 c e))
theorem s94x0 : V94x0 (xF ii94 c e) = B94x0 c (X94x1 c e) := by kernel_rfl
theorem s94x1 : V94x1 (xA ii94 c e [1, 0, 1, 0] aEc (q94x1 c e)) = B94x1 c := by kernel_rfl
def J94x1 (c : TC0) (L : Nat) : Bool → Int → G.O → Rt := B94x1 c
theorem j94x1 : X94x1 c (cu c L) = J94x1 c L := by rw [X94x1, aY, s94x1]; rfl
def F94 (c : TC0) (L : Nat) : G.O → Int → Rt := B94x0 c (J94x1 c L)
theorem e94 : V94x0 (xF ii94 c (cu c L)) = F94 c L := by rw [s94x0]; simp only [j94x1]; rfl
theorem c94 (a0 : G.O) (a1 : Int) (L n : Nat) : CTp L (n + 1) 94 [yR 2 a0, yI a1] = F94 (CTp L n) L a0 a1 := by rw [← e94]; exact cg (x := ii94) (by kernel_rfl) (by kernel_rfl) L n _
def q100x0 (c : TC0) (e : Cu) : Kt := xK mY
def q100x1 (c : TC0) (e : Cu) : Kt := xT mY c e [1, 1] (q100x0 c e)
def aAp (c : TC0) (e : Cu) : Kt := dD U0 0 (q100x1 c e)
def q100x3 (c : TC0) (e : Cu) (n1 : Nt) : Kt := lpK U0 mF n1 (aAp c e)
def q100x4 (c : TC0) (e : Cu) (n1 : Nt) : Kt := xT mY c e [1, 0, 1, 0, 0, 1, 1] (q100x3 c e n1)
def q100x5 (c : TC0) (e : Cu) (n1 : Nt) : Kt := dD U0 1 (q100x4 c e n1)
def B100x0 (c : TC0) (e1 : List G.E → Int → G.Y → G.M → Rt) (a0 : List G.E) (a1 : G.Y) : Rt :=
 e1 a0 (0 : Int) a1 (G.M.mk (G.Y.mk ([] : List UInt8) ([] : List UInt8)) ([] : List G.Y) false (G.T.mk (0 : Int) (G.Y.mk ([] : List UInt8) ([] : List UInt8)) (G.O.mk (0 : Int) ([] : List UInt8) ([] : List UInt8) (G.Y.mk ([] : List UInt8) ([] : List UInt8)) ([] : List UInt8) ([] : List G.O)) ([] : List G.T)))
def V100x0 (n : Nt) : List G.E → G.Y → Rt := fun x0 x1 => n [yS 15 x0, yR 1 x1]
def B100x1 (c : TC0) (k2 : Bool → Int → List G.E → G.Y → G.M → Rt) (a0 : List G.E) (a6 : Int) (b103 : G.Y) (b104 : G.M) : Rt :=
 cnd (decide (a6 < (List.length a0 : Int))) (ob (idx a0 a6) fun v0 =>
 cnd (decide (v0.kind = (2 : Int))) (ob (idx a0 a6) fun v1 =>
 k2 (decide (v1.mac.name = b103)) a6 a0 b103 b104) (k2 false a6 a0 b103 b104)) (some [yR 6 (G.M.mk (G.Y.mk ([] : List UInt8) ([] : List UInt8)) ([] : List G.Y) false (G.T.mk (0 : Int) (G.Y.mk ([] : List UInt8) ([] : List UInt8)) (G.O.mk (0 : Int) ([] : List UInt8) ([] : List UInt8) (G.Y.mk ([] : List UInt8) ([] : List UInt8)) ([] : List UInt8) ([] : List G.O)) ([] : List G.T))), yB false])
def vW (n : Nt) : List G.E → Int → G.Y → G.M → Rt := fun x0 x1 x2 x3 => n [yS 15 x0, yI x1, yR 1 x2, yR 6 x3]
def X100x1 := vW (xE mY e [1, 0, 1, 0, 0] mF (aAp c e))
def B100x2 (c : TC0) (n1 : List G.E → Int → G.Y → G.M → Rt) (a28 : Bool) (a6 : Int) (a0 : List G.E) (b103 : G.Y) (b104 : G.M) : Rt :=
 cnd a28 (ob (idx a0 a6) fun v0 =>
 some [yR 6 v0.mac, yB true]) (n1 a0 (IntKind.i64.wrap (a6 + (1 : Int))) b103 b104)
def V100x2 (n : Nt) : Bool → Int → List G.E → G.Y → G.M → Rt := fun x0 x1 x2 x3 x4 => n [yB x0, yI x1, yS 15 x2, yR 1 x3, yR 6 x4]
def aFk (n1 : Nt) := V100x2 (xD mY e [1, 0, 1, 0, 0, 1, 0, 0, 1, 0] yN (q100x5 c e n1))
theorem s100x0 : V100x0 (xF mY c e) = B100x0 c (X100x1 c e) := by kernel_rfl
theorem s100x1 (n1 : Nt) : vW (xA mY c e [1, 0, 1, 0, 0] mF (lpK U0 mF n1 (aAp c e))) = B100x1 c (aFk c e n1) := by kernel_rfl
theorem s100x2 (n1 : Nt) : V100x2 (xA mY c e [1, 0, 1, 0, 0, 1, 0, 0, 1, 0] yN (q100x5 c e n1)) = B100x2 c (vW n1) := by kernel_rfl
def J100x2 (c : TC0) (L : Nat) (n1 : List G.E → Int → G.Y → G.M → Rt) : Bool → Int → List G.E → G.Y → G.M → Rt := B100x2 c n1
theorem j100x2 (n1 : Nt) : aFk c (cu c L) n1 = J100x2 c L (vW n1) := by rw [aFk, aY, s100x2]; rfl
def aBs (c : TC0) (L : Nat) : Nat → List G.E → Int → G.Y → G.M → Rt
 | 0 => fun _ _ _ _ => none
 | n + 1 => B100x1 c (J100x2 c L (aBs c L n))
theorem u100x1 (n : Nat) : vW (xL mY c L [1, 0, 1, 0, 0] mF (aAp c (cu c L)) n) = aBs c L n := by
 induction n with
 | zero => rfl
 | succ n ih => rw [gW, s100x1]; simp only [j100x2, ih]; rfl
theorem w100x1 : X100x1 c (cu c L) = aBs c L L := u100x1 c L L
def F100 (c : TC0) (L : Nat) : List G.E → G.Y → Rt := B100x0 c (aBs c L L)
theorem e100 : V100x0 (xF mY c (cu c L)) = F100 c L := by rw [s100x0]; simp only [w100x1]; rfl
theorem c100 (a0 : List G.E) (a1 : G.Y) (L n : Nat) : CTp L (n + 1) 100 [yS 15 a0, yR 1 a1] = F100 (CTp L n) L a0 a1 := by rw [← e100]; exact cg (x := mY) (by kernel_rfl) (by kernel_rfl) L n _
def q112x0 (c : TC0) (e : Cu) : Kt := xK xO
def aFR (c : TC0) (k1 : Bool → Rt) (a0 : Int) : Rt :=
 cnd (decide (a0 = (32 : Int))) (k1 true) (cnd (decide (a0 = (9 : Int))) (k1 true) (cnd (decide (a0 = (10 : Int))) (k1 true) (k1 (decide (a0 = (13 : Int))))))
def V112x0 (n : Nt) : Int → Rt := fun x0 => n [⟨(.int .u8), x0⟩]
def aFQ (c : TC0) (a2 : Bool) : Rt :=
 some [yB a2]
def V112x1 (n : Nt) : Bool → Rt := fun x0 => n [yB x0]
def aFj := V112x1 (xD xO e [1, 1, 0] yM (q112x0 c e))
theorem s112x0 : V112x0 (xF xO c e) = aFR c (aFj c e) := by kernel_rfl
theorem s112x1 : V112x1 (xA xO c e [1, 1, 0] yM (q112x0 c e)) = aFQ c := by kernel_rfl
def aFA (c : TC0) (L : Nat) : Bool → Rt := aFQ c
theorem j112x1 : aFj c (cu c L) = aFA c L := by rw [aFj, aY, s112x1]; rfl
def F112 (c : TC0) (L : Nat) : Int → Rt := aFR c (aFA c L)
theorem e112 : V112x0 (xF xO c (cu c L)) = F112 c L := by rw [s112x0]; simp only [j112x1]; rfl
theorem c112 (a0 : Int) (L n : Nat) : CTp L (n + 1) 112 [⟨(.int .u8), a0⟩] = F112 (CTp L n) L a0 := by rw [← e112]; exact cg (x := xO) (by kernel_rfl) (by kernel_rfl) L n _
def q113x0 (c : TC0) (e : Cu) : Kt := xK xN
def aFP (c : TC0) (k1 : Bool → Rt) (a0 : List UInt8) (a1 : Int) (a2 : Int) (a3 : Int) : Rt :=
 cnd (decide ((0 : Int) ≤ a1)) (cnd (decide ((IntKind.i64.wrap (a1 + (1 : Int))) < (List.length a0 : Int))) (ob (idx a0 a1) fun v0 =>
 cnd (decide ((v0.toNat : Int) = a2)) (ob (idx a0 (IntKind.i64.wrap (a1 + (1 : Int)))) fun v1 =>
 k1 (decide ((v1.toNat : Int) = a3))) (k1 false)) (k1 false)) (k1 false)
def V113x0 (n : Nt) : List UInt8 → Int → Int → Int → Rt := fun x0 x1 x2 x3 => n [yT x0, yI x1, ⟨(.int .u8), x2⟩, ⟨(.int .u8), x3⟩]
def aFO (c : TC0) (a8 : Bool) : Rt :=
 some [yB a8]
def V113x1 (n : Nt) : Bool → Rt := fun x0 => n [yB x0]
def aFi := V113x1 (xD xN e [1, 1, 0] yL (q113x0 c e))
theorem s113x0 : V113x0 (xF xN c e) = aFP c (aFi c e) := by kernel_rfl
theorem s113x1 : V113x1 (xA xN c e [1, 1, 0] yL (q113x0 c e)) = aFO c := by kernel_rfl
def aFz (c : TC0) (L : Nat) : Bool → Rt := aFO c
theorem j113x1 : aFi c (cu c L) = aFz c L := by rw [aFi, aY, s113x1]; rfl
def F113 (c : TC0) (L : Nat) : List UInt8 → Int → Int → Int → Rt := aFP c (aFz c L)
theorem e113 : V113x0 (xF xN c (cu c L)) = F113 c L := by rw [s113x0]; simp only [j113x1]; rfl
theorem c113 (a0 : List UInt8) (a1 : Int) (a2 : Int) (a3 : Int) (L n : Nat) : CTp L (n + 1) 113 [yT a0, yI a1, ⟨(.int .u8), a2⟩, ⟨(.int .u8), a3⟩] = F113 (CTp L n) L a0 a1 a2 a3 := by rw [← e113]; exact cg (x := xN) (by kernel_rfl) (by kernel_rfl) L n _
def q115x0 (c : TC0) (e : Cu) : Kt := xK uD
def q115x1 (c : TC0) (e : Cu) : Kt := xT uD c e [1, 1] (q115x0 c e)
def q115x2 (c : TC0) (e : Cu) : Kt := dD U0 0 (q115x1 c e)
def aFN (c : TC0) (k1 : Bool → G.K → G.X → Rt) (a0 : G.K) (a1 : Bool) : Rt :=
 cnd (decide ((40 : Int) < (List.length a0.text : Int))) (obL [.rc 17] (c 76 [yI (2 : Int), yI a0.pos]) fun (r0 : G.X × Unit) =>
 some [yR 17 r0.1]) (cnd a1 (cnd (decide (a0.text = ([] : List UInt8))) (k1 true a0 (G.X.mk (0 : Int) (0 : Int))) (cnd (!decide (a0.package = ([] : List UInt8))) (obL [.bool] (c 135 [yT a0.package]) fun (r1 : Bool × Unit) =>
 k1 (!r1.1) a0 (G.X.mk (0 : Int) (0 : Int))) (k1 false a0 (G.X.mk (0 : Int) (0 : Int))))) (cnd (!decide (a0.package = ([] : List UInt8))) (obL [.bool] (c 135 [yT a0.package]) fun (r2 : Bool × Unit) =>
 k1 (!r2.1) a0 (G.X.mk (0 : Int) (0 : Int))) (k1 false a0 (G.X.mk (0 : Int) (0 : Int)))))
def V115x0 (n : Nt) : G.K → Bool → Rt := fun x0 x1 => n [yR 18 x0, yB x1]
def B115x1 (c : TC0) (a13 : Bool) (b102 : G.K) (b104 : G.X) : Rt :=
 cnd a13 (obL [.rc 17] (c 76 [yI (3 : Int), yI b102.pos]) fun (r0 : G.X × Unit) =>
 some [yR 17 r0.1]) (some [yR 17 (G.X.mk (0 : Int) (0 : Int))])
def V115x1 (n : Nt) : Bool → G.K → G.X → Rt := fun x0 x1 x2 => n [yB x0, yR 18 x1, yR 17 x2]
def aFh := V115x1 (xD uD e [1, 0, 0, 1, 1, 1, 0] yK (q115x2 c e))
theorem s115x0 : V115x0 (xF uD c e) = aFN c (aFh c e) := by kernel_rfl
theorem s115x1 : V115x1 (xA uD c e [1, 0, 0, 1, 1, 1, 0] yK (q115x2 c e)) = B115x1 c := by kernel_rfl
def J115x1 (c : TC0) (L : Nat) : Bool → G.K → G.X → Rt := B115x1 c
theorem j115x1 : aFh c (cu c L) = J115x1 c L := by rw [aFh, aY, s115x1]; rfl
def F115 (c : TC0) (L : Nat) : G.K → Bool → Rt := aFN c (J115x1 c L)
theorem e115 : V115x0 (xF uD c (cu c L)) = F115 c L := by rw [s115x0]; simp only [j115x1]; rfl
theorem c115 (a0 : G.K) (a1 : Bool) (L n : Nat) : CTp L (n + 1) 115 [yR 18 a0, yB a1] = F115 (CTp L n) L a0 a1 := by rw [← e115]; exact cg (x := uD) (by kernel_rfl) (by kernel_rfl) L n _
def q116x0 (c : TC0) (e : Cu) : Kt := xK xM
def aFM (c : TC0) (k1 : Bool → Rt) (a0 : Int) : Rt :=
 cnd (decide ((33 : Int) ≤ a0)) (cnd (decide (a0 ≤ (126 : Int))) (cnd (!decide (a0 = (40 : Int))) (cnd (!decide (a0 = (41 : Int))) (cnd (!decide (a0 = (39 : Int))) (cnd (!decide (a0 = (34 : Int))) (cnd (!decide (a0 = (59 : Int))) (cnd (!decide (a0 = (124 : Int))) (k1 (!decide (a0 = (58 : Int)))) (k1 false)) (k1 false)) (k1 false)) (k1 false)) (k1 false)) (k1 false)) (k1 false)) (k1 false)
def V116x0 (n : Nt) : Int → Rt := fun x0 => n [⟨(.int .u8), x0⟩]
def aFL (c : TC0) (a2 : Bool) : Rt :=
 some [yB a2]
def V116x1 (n : Nt) : Bool → Rt := fun x0 => n [yB x0]
def aFg := V116x1 (xD xM e [1, 1, 0] yJ (q116x0 c e))
theorem s116x0 : V116x0 (xF xM c e) = aFM c (aFg c e) := by kernel_rfl
theorem s116x1 : V116x1 (xA xM c e [1, 1, 0] yJ (q116x0 c e)) = aFL c := by kernel_rfl
def aFy (c : TC0) (L : Nat) : Bool → Rt := aFL c
theorem j116x1 : aFg c (cu c L) = aFy c L := by rw [aFg, aY, s116x1]; rfl
def F116 (c : TC0) (L : Nat) : Int → Rt := aFM c (aFy c L)
theorem e116 : V116x0 (xF xM c (cu c L)) = F116 c L := by rw [s116x0]; simp only [j116x1]; rfl
theorem c116 (a0 : Int) (L n : Nat) : CTp L (n + 1) 116 [⟨(.int .u8), a0⟩] = F116 (CTp L n) L a0 := by rw [← e116]; exact cg (x := xM) (by kernel_rfl) (by kernel_rfl) L n _
def q117x0 (c : TC0) (e : Cu) : Kt := xK mX
def q117x1 (c : TC0) (e : Cu) : Kt := xT mX c e [1, 1] (q117x0 c e)
def aAo (c : TC0) (e : Cu) : Kt := dD U0 0 (q117x1 c e)
def q117x3 (c : TC0) (e : Cu) (n1 : Nt) : Kt := lpK U0 mE n1 (aAo c e)
def q117x4 (c : TC0) (e : Cu) (n1 : Nt) : Kt := xT mX c e [1, 0, 0, 0, 1] (q117x3 c e n1)
def aFK (c : TC0) (e1 : List UInt8 → Int → Rt) (a0 : List UInt8) (a1 : Int) : Rt :=
 e1 a0 a1
def V117x0 (n : Nt) : List UInt8 → Int → Rt := fun x0 x1 => n [yT x0, yI x1]
def aBx (c : TC0) (k2 : Bool → List UInt8 → Int → Rt) (a0 : List UInt8) (a1 : Int) : Rt :=
 cnd (decide (a1 < (List.length a0 : Int))) (ob (idx a0 a1) fun v0 =>
 obL [.bool] (c 116 [⟨(.int .u8), (v0.toNat : Int)⟩]) fun (r1 : Bool × Unit) =>
 k2 r1.1 a0 a1) (k2 false a0 a1)
def vV (n : Nt) : List UInt8 → Int → Rt := fun x0 x1 => n [yT x0, yI x1]
def X117x1 := vV (xE mX e [1, 0, 0, 0] mE (aAo c e))
def vY (c : TC0) (n1 : List UInt8 → Int → Rt) (a14 : Bool) (a0 : List UInt8) (a1 : Int) : Rt :=
 cnd a14 (n1 a0 (IntKind.i64.wrap (a1 + (1 : Int)))) (some [yI a1])
def V117x2 (n : Nt) : Bool → List UInt8 → Int → Rt := fun x0 x1 x2 => n [yB x0, yT x1, yI x2]
def aFf (n1 : Nt) := V117x2 (xD mX e [1, 0, 0, 0, 0, 1, 0] yH (q117x4 c e n1))
theorem s117x0 : V117x0 (xF mX c e) = aFK c (X117x1 c e) := by kernel_rfl
theorem s117x1 (n1 : Nt) : vV (xA mX c e [1, 0, 0, 0] mE (lpK U0 mE n1 (aAo c e))) = aBx c (aFf c e n1) := by kernel_rfl
theorem s117x2 (n1 : Nt) : V117x2 (xA mX c e [1, 0, 0, 0, 0, 1, 0] yH (q117x4 c e n1)) = vY c (vV n1) := by kernel_rfl
def vX (c : TC0) (L : Nat) (n1 : List UInt8 → Int → Rt) : Bool → List UInt8 → Int → Rt := vY c n1
theorem j117x2 (n1 : Nt) : aFf c (cu c L) n1 = vX c L (vV n1) := by rw [aFf, aY, s117x2]; rfl
def oO (c : TC0) (L : Nat) : Nat → List UInt8 → Int → Rt
 | 0 => fun _ _ => none
 | n + 1 => aBx c (vX c L (oO c L n))
theorem u117x1 (n : Nat) : vV (xL mX c L [1, 0, 0, 0] mE (aAo c (cu c L)) n) = oO c L n := by
 induction n with
 | zero => rfl
 | succ n ih => rw [gW, s117x1]; simp only [j117x2, ih]; rfl
theorem w117x1 : X117x1 c (cu c L) = oO c L L := u117x1 c L L
def F117 (c : TC0) (L : Nat) : List UInt8 → Int → Rt := aFK c (oO c L L)
theorem e117 : V117x0 (xF mX c (cu c L)) = F117 c L := by rw [s117x0]; simp only [w117x1]; rfl
theorem c117 (a0 : List UInt8) (a1 : Int) (L n : Nat) : CTp L (n + 1) 117 [yT a0, yI a1] = F117 (CTp L n) L a0 a1 := by rw [← e117]; exact cg (x := mX) (by kernel_rfl) (by kernel_rfl) L n _
def pR (c : TC0) (e : Cu) : Kt := xK dU
def q119x1 (c : TC0) (e : Cu) : Kt := xT dU c e [1, 1, 1] (pR c e)
def q119x2 (c : TC0) (e : Cu) : Kt := xT dU c e [1, 1, 1, 0, 1, 1] (pR c e)
def aAn (c : TC0) (e : Cu) : Kt := dD U0 0 (q119x2 c e)
def q119x4 (c : TC0) (e : Cu) (n3 : Nt) : Kt := lpK U0 mD n3 (aAn c e)
def q119x5 (c : TC0) (e : Cu) (n3 : Nt) : Kt := xT dU c e [1, 1, 1, 0, 1, 0, 0, 0, 1] (q119x4 c e n3)
def q119x6 (c : TC0) (e : Cu) : Kt := xT dU c e [1, 1, 1, 0, 1, 1, 1, 1, 1] (pR c e)
def q119x7 (c : TC0) (e : Cu) : Kt := xT dU c e [1, 1, 1, 0, 1, 1, 1, 1, 1, 1] (pR c e)
def aAm (c : TC0) (e : Cu) : Kt := dD U0 2 (q119x7 c e)
def q119x9 (c : TC0) (e : Cu) (n6 : Nt) : Kt := lpK U0 mC n6 (aAm c e)
def q119x10 (c : TC0) (e : Cu) (n6 : Nt) : Kt := xT dU c e [1, 1, 1, 0, 1, 1, 1, 1, 1, 0, 1, 0, 0, 1, 1] (q119x9 c e n6)
def aDb (c : TC0) (e : Cu) (n6 : Nt) : Kt := dD U0 3 (q119x10 c e n6)
def aFJ (c : TC0) (k1 : Bool → Int → List UInt8 → Rt) (a0 : List UInt8) : Rt :=
 cnd (decide ((0 : Int) < (List.length a0 : Int))) (ob (idx a0 (0 : Int)) fun v0 =>
 k1 (decide ((v0.toNat : Int) = (45 : Int))) (0 : Int) a0) (k1 false (0 : Int) a0)
def V119x0 (n : Nt) : List UInt8 → Rt := fun x0 => n [yT x0]
def aFI (c : TC0) (k2 : Int → List UInt8 → Rt) (a15 : Bool) (a5 : Int) (a0 : List UInt8) : Rt :=
 cnd a15 (k2 (1 : Int) a0) (k2 a5 a0)
def V119x1 (n : Nt) : Bool → Int → List UInt8 → Rt := fun x0 x1 x2 => n [yB x0, yI x1, yT x2]
def aFe := V119x1 (xD dU e [1, 1, 0, 1, 0] yG (q119x1 c e))
def aFH (c : TC0) (e3 : Int → List UInt8 → Int → Rt) (a5 : Int) (a0 : List UInt8) : Rt :=
 e3 a5 a0 a5
def V119x2 (n : Nt) : Int → List UInt8 → Rt := fun x0 x1 => n [yI x0, yT x1]
def aFd := V119x2 (xD dU e [1, 1, 1, 0] yF (pR c e))
def aFG (c : TC0) (k4 : Bool → Int → List UInt8 → Int → Rt) (a5 : Int) (a0 : List UInt8) (a6 : Int) : Rt :=
 cnd (decide (a6 < (List.length a0 : Int))) (ob (idx a0 a6) fun v0 =>
 cnd (decide ((48 : Int) ≤ (v0.toNat : Int))) (ob (idx a0 a6) fun v1 =>
 k4 (decide ((v1.toNat : Int) ≤ (57 : Int))) a5 a0 a6) (k4 false a5 a0 a6)) (k4 false a5 a0 a6)
def vU (n : Nt) : Int → List UInt8 → Int → Rt := fun x0 x1 x2 => n [yI x0, yT x1, yI x2]
def X119x3 := vU (xE dU e [1, 1, 1, 0, 1, 0, 0, 0] mD (aAn c e))
def B119x4 (c : TC0) (n3 : Int → List UInt8 → Int → Rt) (k5 : Bool → List UInt8 → Int → Rt) (a32 : Bool) (a5 : Int) (a0 : List UInt8) (a6 : Int) : Rt :=
 cnd a32 (n3 a5 a0 (IntKind.i64.wrap (a6 + (1 : Int)))) (cnd (decide (a6 = a5)) (some [yT ([] : List UInt8), yT ([] : List UInt8), yB false]) (cnd (decide (a6 = (List.length a0 : Int))) (some [yT a0, yT ([49] : List UInt8), yB true]) (ob (idx a0 a6) fun v0 =>
 cnd (!decide ((v0.toNat : Int) = (47 : Int))) (k5 true a0 a6) (k5 (decide ((IntKind.i64.wrap (a6 + (1 : Int))) = (List.length a0 : Int))) a0 a6))))
def V119x4 (n : Nt) : Bool → Int → List UInt8 → Int → Rt := fun x0 x1 x2 x3 => n [yB x0, yI x1, yT x2, yI x3]
def aFc (n3 : Nt) := V119x4 (xD dU e [1, 1, 1, 0, 1, 0, 0, 0, 0, 1, 0] yE (q119x5 c e n3))
def B119x5 (c : TC0) (e6 : Int → List UInt8 → Int → Rt) (a53 : Bool) (a0 : List UInt8) (a6 : Int) : Rt :=
 cnd a53 (some [yT ([] : List UInt8), yT ([] : List UInt8), yB false]) (e6 (IntKind.i64.wrap (a6 + (1 : Int))) a0 a6)
def V119x5 (n : Nt) : Bool → List UInt8 → Int → Rt := fun x0 x1 x2 => n [yB x0, yT x1, yI x2]
def aFb := V119x5 (xD dU e [1, 1, 1, 0, 1, 1, 1, 1, 0, 1, 0] yD (q119x6 c e))
def B119x6 (c : TC0) (k7 : Bool → Int → List UInt8 → Int → Rt) (a7 : Int) (a0 : List UInt8) (a6 : Int) : Rt :=
 cnd (decide (a7 < (List.length a0 : Int))) (ob (idx a0 a7) fun v0 =>
 cnd (decide ((v0.toNat : Int) < (48 : Int))) (k7 true a7 a0 a6) (ob (idx a0 a7) fun v1 =>
 k7 (decide ((57 : Int) < (v1.toNat : Int))) a7 a0 a6)) (ob (slc a0 (0 : Int) a6) fun v2 =>
 ob (slc a0 (IntKind.i64.wrap (a6 + (1 : Int))) (List.length a0 : Int)) fun v3 =>
 some [yT v2, yT v3, yB true])
def vT (n : Nt) : Int → List UInt8 → Int → Rt := fun x0 x1 x2 => n [yI x0, yT x1, yI x2]
def X119x6 := vT (xE dU e [1, 1, 1, 0, 1, 1, 1, 1, 1, 0, 1, 0, 0] mC (aAm c e))
def B119x7 (c : TC0) (n6 : Int → List UInt8 → Int → Rt) (a71 : Bool) (a7 : Int) (a0 : List UInt8) (a6 : Int) : Rt :=
 cnd a71 (some [yT ([] : List UInt8), yT ([] : List UInt8), yB false]) (n6 (IntKind.i64.wrap (a7 + (1 : Int))) a0 a6)
def V119x7 (n : Nt) : Bool → Int → List UInt8 → Int → Rt := fun x0 x1 x2 x3 => n [yB x0, yI x1, yT x2, yI x3]
def aFa (n6 : Nt) := V119x7 (xD dU e [1, 1, 1, 0, 1, 1, 1, 1, 1, 0, 1, 0, 0, 1, 0, 0, 1, 0] yC (aDb c e n6))
theorem s119x0 : V119x0 (xF dU c e) = aFJ c (aFe c e) := by kernel_rfl
theorem s119x1 : V119x1 (xA dU c e [1, 1, 0, 1, 0] yG (q119x1 c e)) = aFI c (aFd c e) := by kernel_rfl
theorem s119x2 : V119x2 (xA dU c e [1, 1, 1, 0] yF (pR c e)) = aFH c (X119x3 c e) := by kernel_rfl
theorem s119x3 (n3 : Nt) : vU (xA dU c e [1, 1, 1, 0, 1, 0, 0, 0] mD (lpK U0 mD n3 (aAn c e))) = aFG c (aFc c e n3) := by kernel_rfl
theorem s119x4 (n3 : Nt) : V119x4 (xA dU c e [1, 1, 1, 0, 1, 0, 0, 0, 0, 1, 0] yE (q119x5 c e n3)) = B119x4 c (vU n3) (aFb c e) := by kernel_rfl
theorem s119x5 : V119x5 (xA dU c e [1, 1, 1, 0, 1, 1, 1, 1, 0, 1, 0] yD (q119x6 c e)) = B119x5 c (X119x6 c e) := by kernel_rfl
theorem s119x6 (n6 : Nt) : vT (xA dU c e [1, 1, 1, 0, 1, 1, 1, 1, 1, 0, 1, 0, 0] mC (lpK U0 mC n6 (aAm c e))) = B119x6 c (aFa c e n6) := by kernel_rfl
theorem s119x7 (n6 : Nt) : V119x7 (xA dU c e [1, 1, 1, 0, 1, 1, 1, 1, 1, 0, 1, 0, 0, 1, 0, 0, 1, 0] yC (aDb c e n6)) = B119x7 c (vT n6) := by kernel_rfl
def J119x7 (c : TC0) (L : Nat) (n6 : Int → List UInt8 → Int → Rt) : Bool → Int → List UInt8 → Int → Rt := B119x7 c n6
theorem j119x7 (n6 : Nt) : aFa c (cu c L) n6 = J119x7 c L (vT n6) := by rw [aFa, aY, s119x7]; rfl
def aBr (c : TC0) (L : Nat) : Nat → Int → List UInt8 → Int → Rt
 | 0 => fun _ _ _ => none
 | n + 1 => B119x6 c (J119x7 c L (aBr c L n))
theorem u119x6 (n : Nat) : vT (xL dU c L [1, 1, 1, 0, 1, 1, 1, 1, 1, 0, 1, 0, 0] mC (aAm c (cu c L)) n) = aBr c L n := by
 induction n with
 | zero => rfl
 | succ n ih => rw [gW, s119x6]; simp only [j119x7, ih]; rfl
theorem w119x6 : X119x6 c (cu c L) = aBr c L L := u119x6 c L L
def J119x5 (c : TC0) (L : Nat) : Bool → List UInt8 → Int → Rt := B119x5 c (aBr c L L)
theorem j119x5 : aFb c (cu c L) = J119x5 c L := by rw [aFb, aY, s119x5]; simp only [w119x6]; rfl
def aFv (c : TC0) (L : Nat) (n3 : Int → List UInt8 → Int → Rt) : Bool → Int → List UInt8 → Int → Rt := B119x4 c n3 (J119x5 c L)
theorem j119x4 (n3 : Nt) : aFc c (cu c L) n3 = aFv c L (vU n3) := by rw [aFc, aY, s119x4]; simp only [j119x5]; rfl
def qS (c : TC0) (L : Nat) : Nat → Int → List UInt8 → Int → Rt
 | 0 => fun _ _ _ => none
 | n + 1 => aFG c (aFv c L (qS c L n))
theorem u119x3 (n : Nat) : vU (xL dU c L [1, 1, 1, 0, 1, 0, 0, 0] mD (aAn c (cu c L)) n) = qS c L n := by
 induction n with
 | zero => rfl
 | succ n ih => rw [gW, s119x3]; simp only [j119x4, ih]; rfl
theorem w119x3 : X119x3 c (cu c L) = qS c L L := u119x3 c L L
def aFw (c : TC0) (L : Nat) : Int → List UInt8 → Rt := aFH c (qS c L L)
theorem j119x2 : aFd c (cu c L) = aFw c L := by rw [aFd, aY, s119x2]; simp only [w119x3]; rfl
def aFx (c : TC0) (L : Nat) : Bool → Int → List UInt8 → Rt := aFI c (aFw c L)
theorem j119x1 : aFe c (cu c L) = aFx c L := by rw [aFe, aY, s119x1]; simp only [j119x2]; rfl
def F119 (c : TC0) (L : Nat) : List UInt8 → Rt := aFJ c (aFx c L)
theorem e119 : V119x0 (xF dU c (cu c L)) = F119 c L := by rw [s119x0]; simp only [j119x1]; rfl
theorem c119 (a0 : List UInt8) (L n : Nat) : CTp L (n + 1) 119 [yT a0] = F119 (CTp L n) L a0 := by rw [← e119]; exact cg (x := dU) (by kernel_rfl) (by kernel_rfl) L n _
def q122x0 (c : TC0) (e : Cu) : Kt := xK rZ
def q122x1 (c : TC0) (e : Cu) : Kt := xT rZ c e [1, 1] (q122x0 c e)
def aDa (c : TC0) (e : Cu) : Kt := dD U0 0 (q122x1 c e)
def B122x0 (c : TC0) (e1 : List UInt8 → List G.A → Int → G.A → Rt) (a0 : List G.A) (a1 : List UInt8) : Rt :=
 e1 a1 a0 (0 : Int) (G.A.mk ([] : List UInt8) ([] : List G.Y))
def V122x0 (n : Nt) : List G.A → List UInt8 → Rt := fun x0 x1 => n [yS 5 x0, yT x1]
def B122x1 (c : TC0) (n1 : List UInt8 → List G.A → Int → G.A → Rt) (a1 : List UInt8) (a0 : List G.A) (a6 : Int) (b104 : G.A) : Rt :=
 cnd (decide (a6 < (List.length a0 : Int))) (ob (idx a0 a6) fun v0 =>
 cnd (decide (v0.name = a1)) (ob (idx a0 a6) fun v1 =>
 some [yR 5 v1, yB true]) (n1 a1 a0 (IntKind.i64.wrap (a6 + (1 : Int))) b104)) (some [yR 5 (G.A.mk ([] : List UInt8) ([] : List G.Y)), yB false])
def aBt (n : Nt) : List UInt8 → List G.A → Int → G.A → Rt := fun x0 x1 x2 x3 => n [yT x0, yS 5 x1, yI x2, yR 5 x3]
def X122x1 := aBt (xE rZ e [1, 0, 1, 0, 0] oF (aDa c e))
theorem s122x0 : V122x0 (xF rZ c e) = B122x0 c (X122x1 c e) := by kernel_rfl
theorem s122x1 (n1 : Nt) : aBt (xA rZ c e [1, 0, 1, 0, 0] oF (lpK U0 oF n1 (aDa c e))) = B122x1 c (aBt n1) := by kernel_rfl
def aBq (c : TC0) (L : Nat) : Nat → List UInt8 → List G.A → Int → G.A → Rt
 | 0 => fun _ _ _ _ => none
 | n + 1 => B122x1 c (aBq c L n)
theorem u122x1 (n : Nat) : aBt (xL rZ c L [1, 0, 1, 0, 0] oF (aDa c (cu c L)) n) = aBq c L n := by
 induction n with
 | zero => rfl
 | succ n ih => rw [gW, s122x1]; simp only [ih]; rfl
theorem w122x1 : X122x1 c (cu c L) = aBq c L L := u122x1 c L L
def F122 (c : TC0) (L : Nat) : List G.A → List UInt8 → Rt := B122x0 c (aBq c L L)
theorem e122 : V122x0 (xF rZ c (cu c L)) = F122 c L := by rw [s122x0]; simp only [w122x1]; rfl
theorem c122 (a0 : List G.A) (a1 : List UInt8) (L n : Nat) : CTp L (n + 1) 122 [yS 5 a0, yT a1] = F122 (CTp L n) L a0 a1 := by rw [← e122]; exact cg (x := rZ) (by kernel_rfl) (by kernel_rfl) L n _
def q144x0 (c : TC0) (e : Cu) : Kt := xK jW
def q144x1 (c : TC0) (e : Cu) : Kt := xT jW c e [1, 1] (q144x0 c e)
def q144x2 (c : TC0) (e : Cu) : Kt := xT jW c e [1, 1, 1] (q144x0 c e)
def aAl (c : TC0) (e : Cu) : Kt := dD U0 0 (q144x2 c e)
def q144x4 (c : TC0) (e : Cu) (n2 : Nt) : Kt := lpK U0 mB n2 (aAl c e)
def q144x5 (c : TC0) (e : Cu) (n2 : Nt) : Kt := xT jW c e [1, 1, 0, 1, 0, 0, 1, 1] (q144x4 c e n2)
def q144x6 (c : TC0) (e : Cu) (n2 : Nt) : Kt := dD U0 1 (q144x5 c e n2)
def B144x0 (c : TC0) (k1 : Bool → List UInt8 → Rt) (a0 : List UInt8) : Rt :=
 cnd (decide ((List.length a0 : Int) < (1 : Int))) (k1 true a0) (cnd (decide ((40 : Int) < (List.length a0 : Int))) (k1 true a0) (ob (idx a0 (0 : Int)) fun v0 =>
 cnd (decide ((v0.toNat : Int) < (97 : Int))) (k1 true a0) (ob (idx a0 (0 : Int)) fun v1 =>
 k1 (decide ((122 : Int) < (v1.toNat : Int))) a0)))
def V144x0 (n : Nt) : List UInt8 → Rt := fun x0 => n [yT x0]
def B144x1 (c : TC0) (e2 : List UInt8 → Int → Rt) (a22 : Bool) (a0 : List UInt8) : Rt :=
 cnd a22 (some [yB false]) (e2 a0 (0 : Int))
def V144x1 (n : Nt) : Bool → List UInt8 → Rt := fun x0 x1 => n [yB x0, yT x1]
def aE9 := V144x1 (xD jW e [1, 0, 1, 0] yA (q144x1 c e))
def B144x2 (c : TC0) (k3 : Bool → Int → List UInt8 → Rt) (a0 : List UInt8) (a3 : Int) : Rt :=
 cnd (decide (a3 < (List.length a0 : Int))) (ob (idx a0 a3) fun v0 =>
 cnd (decide ((v0.toNat : Int) < (97 : Int))) (cnd (decide ((v0.toNat : Int) < (48 : Int))) (k3 (!decide ((v0.toNat : Int) = (45 : Int))) a3 a0) (cnd (decide ((57 : Int) < (v0.toNat : Int))) (k3 (!decide ((v0.toNat : Int) = (45 : Int))) a3 a0) (k3 false a3 a0))) (cnd (decide ((122 : Int) < (v0.toNat : Int))) (cnd (decide ((v0.toNat : Int) < (48 : Int))) (k3 (!decide ((v0.toNat : Int) = (45 : Int))) a3 a0) (cnd (decide ((57 : Int) < (v0.toNat : Int))) (k3 (!decide ((v0.toNat : Int) = (45 : Int))) a3 a0) (k3 false a3 a0))) (k3 false a3 a0))) (some [yB true])
def vS (n : Nt) : List UInt8 → Int → Rt := fun x0 x1 => n [yT x0, yI x1]
def X144x2 := vS (xE jW e [1, 1, 0, 1, 0, 0] mB (aAl c e))
def B144x3 (c : TC0) (n2 : List UInt8 → Int → Rt) (a49 : Bool) (a3 : Int) (a0 : List UInt8) : Rt :=
 cnd a49 (some [yB false]) (n2 a0 (IntKind.i64.wrap (a3 + (1 : Int))))
def V144x3 (n : Nt) : Bool → Int → List UInt8 → Rt := fun x0 x1 x2 => n [yB x0, yI x1, yT x2]
def aE8 (n2 : Nt) := V144x3 (xD jW e [1, 1, 0, 1, 0, 0, 1, 0, 0, 1, 1, 0] xZ (q144x6 c e n2))
theorem s144x0 : V144x0 (xF jW c e) = B144x0 c (aE9 c e) := by kernel_rfl
theorem s144x1 : V144x1 (xA jW c e [1, 0, 1, 0] yA (q144x1 c e)) = B144x1 c (X144x2 c e) := by kernel_rfl
theorem s144x2 (n2 : Nt) : vS (xA jW c e [1, 1, 0, 1, 0, 0] mB (lpK U0 mB n2 (aAl c e))) = B144x2 c (aE8 c e n2) := by kernel_rfl
theorem s144x3 (n2 : Nt) : V144x3 (xA jW c e [1, 1, 0, 1, 0, 0, 1, 0, 0, 1, 1, 0] xZ (q144x6 c e n2)) = B144x3 c (vS n2) := by kernel_rfl
def J144x3 (c : TC0) (L : Nat) (n2 : List UInt8 → Int → Rt) : Bool → Int → List UInt8 → Rt := B144x3 c n2
theorem j144x3 (n2 : Nt) : aE8 c (cu c L) n2 = J144x3 c L (vS n2) := by rw [aE8, aY, s144x3]; rfl
def aBp (c : TC0) (L : Nat) : Nat → List UInt8 → Int → Rt
 | 0 => fun _ _ => none
 | n + 1 => B144x2 c (J144x3 c L (aBp c L n))
theorem u144x2 (n : Nat) : vS (xL jW c L [1, 1, 0, 1, 0, 0] mB (aAl c (cu c L)) n) = aBp c L n := by
 induction n with
 | zero => rfl
 | succ n ih => rw [gW, s144x2]; simp only [j144x3, ih]; rfl
theorem w144x2 : X144x2 c (cu c L) = aBp c L L := u144x2 c L L
def J144x1 (c : TC0) (L : Nat) : Bool → List UInt8 → Rt := B144x1 c (aBp c L L)
theorem j144x1 : aE9 c (cu c L) = J144x1 c L := by rw [aE9, aY, s144x1]; simp only [w144x2]; rfl
def F144 (c : TC0) (L : Nat) : List UInt8 → Rt := B144x0 c (J144x1 c L)
theorem e144 : V144x0 (xF jW c (cu c L)) = F144 c L := by rw [s144x0]; simp only [j144x1]; rfl
theorem c144 (a0 : List UInt8) (L n : Nat) : CTp L (n + 1) 144 [yT a0] = F144 (CTp L n) L a0 := by rw [← e144]; exact cg (x := jW) (by kernel_rfl) (by kernel_rfl) L n _
end
end Go.TV
namespace Go.TV
open Go.AI Go.PI Go.Proofs
def blI (x : Int) : Bool := decide (x = 32) || decide (x = 9) || decide (x = 10) || decide (x = 13)
def csI (x : Int) : Bool := decide (33 ≤ x) && decide (x ≤ 126) && !decide (x = 40) && !decide (x = 41) && !decide (x = 39) && !decide (x = 34) && !decide (x = 59) && !decide (x = 124) && !decide (x = 58)
def u8 (x : UInt8) : Int := (x.toNat : Int)
theorem Bl_ok (x : Int) (L n : Nat) : CTp L (n + 1) 112 [⟨.int .u8, x⟩] = some [yB (blI x)] := by
 rw [c112]
 simp only [F112, aFR, aFA, aFQ, blI]
 generalize decide (x = 32) = a, decide (x = 9) = b, decide (x = 10) = d, decide (x = 13) = e
 cases a <;> cases b <;> cases d <;> cases e <;> rfl
theorem Cs_ok (x : Int) (L n : Nat) : CTp L (n + 1) 116 [⟨.int .u8, x⟩] = some [yB (csI x)] := by
 rw [c116]
 simp only [F116, aFM, aFy, aFL, csI]
 generalize decide (33 ≤ x) = a, decide (x ≤ 126) = b, decide (x = 40) = d, decide (x = 41) = e, decide (x = 39) = f, decide (x = 34) = g, decide (x = 59) = h, decide (x = 124) = i, decide (x = 58) = j
 cases a
 ·rfl
 cases b
 ·rfl
 cases d
 case true => rfl
 cases e
 case true => rfl
 cases f
 case true => rfl
 cases g
 case true => rfl
 cases h
 case true => rfl
 cases i
 case true => rfl
 cases j <;> rfl
theorem has_no {s : List UInt8} {k : Nat} {a b : Int} (hb : s.length < 1000000000) (hk : k ≤ s.length) (h : ∀ x, s[k]? = some x → u8 x ≠ a) (L n : Nat) : CTp L (n + 1) 113 [yT s, yI (k : Int), ⟨.int .u8, a⟩, ⟨.int .u8, b⟩] = some [yB false] := by
 rw [c113]
 have e0 : decide ((0 : Int) ≤ (k : Int)) = true := by simp
 simp only [F113, aFP, aFz, aFO, e0, aI]
 cases h1 : decide (IntKind.i64.wrap ((k : Int) + 1) < (s.length : Int)) with
 | false => rfl
 | true =>
  rw [aI, aL]
  cases h2 : s[k]? with
  | none =>
   exfalso
   have := List.getElem?_eq_none_iff.1 h2
   simp only [djE] at h1
   rw [dF (by omega)] at h1
   omega
  | some x =>
   have := h x h2
   have e1 : decide ((x.toNat : Int) = a) = false := by simpa [u8] using this
   rw [dE, e1]; rfl
theorem Wd_loop {c : TC0} {L : Nat} {s r : List UInt8} (hc : ∀ x, c 116 [⟨.int .u8, x⟩] = some [yB (csI x)]) (hb : s.length < 1000000000) (hr : ∀ y, r.head? = some y → csI (u8 y) = false) :
    ∀ (w : List UInt8) (k m : Nat), s.drop k = w ++ r → w.length < m → (∀ x ∈ w, csI (u8 x) = true) → oO c L m s (k : Int) = some [yI ((k + w.length : Nat) : Int)] := by
 intro w
 induction w with
 | nil =>
  intro k m h1 h2 _
  obtain ⟨m, rfl⟩ : ∃ m', m = m' + 1 := ⟨m - 1, by simp at h2; omega⟩
  rw [oO, aBx]
  rw [nlA] at h1
  cases r with
  | nil =>
   have e1 := aW h1
   have e3 : decide ((k : Int) < (s.length : Int)) = false := by simp; omega
   rw [e3, aH, vX, vY, aH]; rfl
  | cons y r =>
   obtain ⟨a1, a2, a3⟩ := aV h1
   have e3 : decide ((k : Int) < (s.length : Int)) = true := by simp; omega
   have e4 : csI (y.toNat : Int) = false := hr y rfl
   rw [e3, aI, aL, a1, dE, hc, cY, vX, vY, e4, aH]; rfl
 | cons x w ih =>
  intro k m h1 h2 h3
  obtain ⟨m, rfl⟩ : ∃ m', m = m' + 1 := ⟨m - 1, by simp at h2; omega⟩
  rw [oO, aBx]
  obtain ⟨a1, a2, a3⟩ := aV h1
  have e3 : decide ((k : Int) < (s.length : Int)) = true := by simp; omega
  have e4 : csI (x.toNat : Int) = true := h3 x (mhE ..)
  rw [e3, aI, aL, a1, dE, hc, cY, vX, vY, e4, aI, dF (by omega)]
  rw [ih (k + 1) m a3 (by simp at h2; omega) fun z hz => h3 z (mtE _ hz)]
  simp only [lcS]; congr 4; omega
theorem Wd_ok {s w r : List UInt8} {k L n : Nat} (hb : s.length < 1000000000) (hL : s.length < L) (h : s.drop k = w ++ r) (hw : ∀ x ∈ w, csI (u8 x) = true) (hr : ∀ y, r.head? = some y → csI (u8 y) = false) :
    CTp L (n + 2) 117 [yT s, yI (k : Int)] = some [yI ((k + w.length : Nat) : Int)] := by
 have := congrArg List.length h
 simp at this
 show CTp L (n + 1 + 1) 117 _ = _
 rw [c117, F117, aFK]
 exact Wd_loop (fun x => Cs_ok x L n) hb hr w k L h (by omega) hw
theorem Sk_loop {c : TC0} {L : Nat} {s r : List UInt8} (hc : ∀ x, c 112 [⟨.int .u8, x⟩] = some [yB (blI x)])
    (hh : ∀ k : Nat, k ≤ s.length → (∀ x, s[k]? = some x → u8 x ≠ 35) → c 113 [yT s, yI (k : Int), ⟨.int .u8, (35 : Int)⟩, ⟨.int .u8, (124 : Int)⟩] = some [yB false])
    (hb : s.length < 1000000000) (hr : ∀ y, r.head? = some y → blI (u8 y) = false ∧ u8 y ≠ 59 ∧ u8 y ≠ 35) :
    ∀ (w : List UInt8) (k m : Nat), s.drop k = w ++ r → w.length < m → (∀ x ∈ w, blI (u8 x) = true) → sN c L m s (k : Int) = some [yI ((k + w.length : Nat) : Int), yB true] := by
 intro w
 induction w with
 | nil =>
  intro k m h1 h2 _
  obtain ⟨m, rfl⟩ : ∃ m', m = m' + 1 := ⟨m - 1, by simp at h2; omega⟩
  rw [sN, B90x1]
  rw [nlA] at h1
  cases r with
  | nil =>
   have e1 := aW h1
   have e3 : decide ((k : Int) < (s.length : Int)) = false := by simp; omega
   rw [e3, aH]; rfl
  | cons y r =>
   obtain ⟨a1, a2, a3⟩ := aV h1
   have e3 : decide ((k : Int) < (s.length : Int)) = true := by simp; omega
   obtain ⟨e4, e5, e6⟩ := hr y rfl
   have e4 : blI (y.toNat : Int) = false := e4
   have e7 : decide ((y.toNat : Int) = 59) = false := by simpa [u8] using e5
   have h8 := hh k (by omega) fun x hx => by rw [a1] at hx; cases hx; exact e6
   rw [e3, aI, aL, a1, dE, hc, cY, e4, aH, dE, e7, aH, h8, cY, aH]; rfl
 | cons x w ih =>
  intro k m h1 h2 h3
  obtain ⟨m, rfl⟩ : ∃ m', m = m' + 1 := ⟨m - 1, by simp at h2; omega⟩
  rw [sN, B90x1]
  obtain ⟨a1, a2, a3⟩ := aV h1
  have e3 : decide ((k : Int) < (s.length : Int)) = true := by simp; omega
  have e4 : blI (x.toNat : Int) = true := h3 x (mhE ..)
  rw [e3, aI, aL, a1, dE, hc, cY, e4, aI, dF (by omega)]
  rw [ih (k + 1) m a3 (by simp at h2; omega) fun z hz => h3 z (mtE _ hz)]
  simp only [lcS]; congr 4; omega
theorem Sk_ok {s w r : List UInt8} {k L n : Nat} (hb : s.length < 1000000000) (hL : s.length < L) (h : s.drop k = w ++ r) (hw : ∀ x ∈ w, blI (u8 x) = true) (hr : ∀ y, r.head? = some y → blI (u8 y) = false ∧ u8 y ≠ 59 ∧ u8 y ≠ 35) :
    CTp L (n + 2) 90 [yT s, yI (k : Int)] = some [yI ((k + w.length : Nat) : Int), yB true] := by
 have := congrArg List.length h
 simp at this
 show CTp L (n + 1 + 1) 90 _ = _
 rw [c90, F90, B90x0]
 exact Sk_loop (fun x => Bl_ok x L n) (fun k h6 hk => has_no hb h6 hk L n) hb hr w k L h (by omega) hw
end Go.TV
namespace Go.TV
open Go.AI Go.PI Go.Proofs
theorem slc_nat {α : Type} {s w r : List α} {k : Nat} (h : s.drop k = w ++ r) (hk : k ≤ s.length) : slc s (k : Int) ((k + w.length : Nat) : Int) = some w := by
 have hl := congrArg List.length h
 simp at hl
 unfold slc
 have e1 : decide ((0 : Int) ≤ (k : Int)) = true := by simp
 have e2 : decide ((k : Int) ≤ ((k + w.length : Nat) : Int)) = true := by simp; omega
 have e3 : decide (((k + w.length : Nat) : Int) ≤ (s.length : Int)) = true := by simp only [djE]; omega
 rw [e1, e2, e3]
 simp only [Bool.and_self, cdt, Int.toNat_natCast, ojE]
 rw [List.drop_take, h]
 simp
theorem obL_nm {β : Type} {a b : List UInt8} {d : Bool} {K : List UInt8 × List UInt8 × Bool × Unit → Option β} : obL (D := U0.D) [.str, .str, .bool] (some [yT a, yT b, yB d]) K = K (a, b, d, ()) := rfl
theorem obL_se {β : Type} {a : G.X} {K : G.X × Unit → Option β} : obL (D := U0.D) [.rc 17] (some [yR 17 a]) K = K (a, ()) := rfl
theorem aAF {β : Type} {a : Int} {b : Bool} {K : Int × Bool × Unit → Option β} : obL (D := U0.D) [.int .i64, .bool] (some [yI a, yB b]) K = K (a, b, ()) := rfl
theorem obL_i {β : Type} {a : Int} {K : Int × Unit → Option β} : obL (D := U0.D) [.int .i64] (some [yI a]) K = K (a, ()) := rfl
theorem obL_s {β : Type} {a : List UInt8} {K : List UInt8 × Unit → Option β} : obL (D := U0.D) [.str] (some [yT a]) K = K (a, ()) := rfl
theorem obL_s2 {β : Type} {a b : List UInt8} {K : List UInt8 × List UInt8 × Unit → Option β} : obL (D := U0.D) [.str, .str] (some [yT a, yT b]) K = K (a, b, ()) := rfl
theorem obL_on {β : Type} {a : G.K} {b : Int} {d : G.X} {K : G.K × Int × G.X × Unit → Option β} : obL (D := U0.D) [.rc 18, .int .i64, .rc 17] (some [yR 18 a, yI b, yR 17 d]) K = K (a, b, d, ()) := rfl
theorem Nm_no {x : UInt8} {w : List UInt8} (h1 : u8 x ≠ 45) (h2 : u8 x < 48 ∨ 57 < u8 x) (L n : Nat) : CTp (L + 1) (n + 1) 119 [yT (x :: w)] = some [yT [], yT [], yB false] := by
 rw [c119]
 have e1 : decide ((0 : Int) < ((x :: w).length : Int)) = true := by simp
 have e2 : decide ((x.toNat : Int) = 45) = false := by simpa [u8] using h1
 have e3 : idx (x :: w) (0 : Int) = some x := rfl
 rw [F119, aFJ, e1, aI, e3, dE, e2, aFx, aFI, aH, aFw, aFH, qS, aFG, e1, aI, e3, dE]
 have key : ∀ b : Bool, b = false → aFv (CTp (L + 1) n) (L + 1) (qS (CTp (L + 1) n) (L + 1) L) b 0 (x :: w) 0 = some [yT [], yT [], yB false] := by
  intro b hb; subst hb; rfl
 cases h3 : decide ((48 : Int) ≤ (x.toNat : Int)) with
 | false => exact key _ rfl
 | true =>
  rw [aI, dE]
  have h4 : decide ((x.toNat : Int) ≤ (57 : Int)) = false := by
   simp only [djE] at h3
   simp only [dfN]
   simp only [u8] at h2
   omega
  exact key _ h4
theorem Nd_ok {k p : Int} {w : List UInt8} (h : w.length ≤ 40) (L n : Nat) : CTp L (n + 1) 115 [yR 18 ⟨k, p, [], w, []⟩, yB false] = some [yR 17 ⟨0, 0⟩] := by
 rw [c115]
 have e1 : decide ((40 : Int) < (w.length : Int)) = false := by simp; omega
 simp only [F115, aFN, e1, aH]
 rfl
structure NumW (c : TC0) (w : List UInt8) : Prop where
 a : c 119 [yT w] = some [yT w, yT [49], yB true]
 b : c 120 [yT [49]] = some [yT [49]]
 d : c 120 [yT w] = some [yT w]
 e : c 86 [yT w, yT [49]] = some [yT w, yT [49]]
 f : c 121 [yT w] = some [yI 1]
 g : c 121 [yT [49]] = some [yI 1]
def SyW (w : List UInt8) : Prop := ∃ x l, w = x :: l ∧ u8 x ≠ 45 ∧ (u8 x < 48 ∨ 57 < u8 x) ∧ w ≠ [46] ∧ w.length ≤ 40
theorem aEO {x : Int} (h : csI x = true) : x ≠ 40 ∧ x ≠ 41 ∧ x ≠ 39 ∧ x ≠ 34 ∧ x ≠ 59 ∧ x ≠ 124 ∧ x ≠ 58 := by
 simp only [csI, bjE, Bool.not_eq_true', dfN] at h
 obtain ⟨⟨⟨⟨⟨⟨⟨_, h1⟩, h2⟩, h3⟩, h4⟩, h5⟩, h6⟩, h7⟩ := h
 exact ⟨h1, h2, h3, h4, h5, h6, h7⟩
def wtk (b : Bool) (p : Int) (w : List UInt8) : G.K := bif b then ⟨5, p, [], w, [49]⟩ else ⟨6, p, [], w, []⟩
theorem On_w {s w r : List UInt8} {k L n : Nat} {nu : Bool} (hb : s.length < 1000000000) (hL : s.length < L) (h : s.drop k = w ++ r) (h0 : w ≠ []) (hw : ∀ x ∈ w, csI (u8 x) = true) (hr : ∀ y, r.head? = some y → csI (u8 y) = false ∧ u8 y ≠ 58)
    (hk : (nu = true ∧ NumW (CTp L (n + 2)) w) ∨ (nu = false ∧ SyW w)) :
    CTp L (n + 3) 91 [yT s, yI (k : Int)] = some [yR 18 (wtk nu (k : Int) w), yI ((k + w.length : Nat) : Int), yR 17 ⟨0, 0⟩] := by
 have hl := congrArg List.length h
 simp at hl
 obtain ⟨L, rfl⟩ : ∃ L', L = L' + 1 := ⟨L - 1, by omega⟩
 cases hw0 : w with
 | nil => exact (h0 hw0).elim
 | cons x l =>
  rw [← hw0]
  have hx : x ∈ w := by rw [hw0]; exact mhE ..
  have h1 : s.drop k = x :: (l ++ r) := by rw [h, hw0]; rfl
  obtain ⟨a1, a2, a3⟩ := aV h1
  obtain ⟨q1, q2, q3, q4, q5, q6, q7⟩ := aEO (hw x hx)
  have d1 : decide ((x.toNat : Int) = 40) = false := by simpa [u8] using q1
  have d2 : decide ((x.toNat : Int) = 41) = false := by simpa [u8] using q2
  have d3 : decide ((x.toNat : Int) = 39) = false := by simpa [u8] using q3
  have d4 : decide ((x.toNat : Int) = 34) = false := by simpa [u8] using q4
  have d5 : decide ((x.toNat : Int) = 124) = false := by simpa [u8] using q6
  have d6 : csI (x.toNat : Int) = true := hw x hx
  have hwd := Wd_ok (n := n) hb hL h hw (fun y hy => (hr y hy).1)
  have hsl := slc_nat h (by omega)
  have hhs : CTp (L + 1) (n + 2) 113 [yT s, yI ((k + w.length : Nat) : Int), ⟨.int .u8, (58 : Int)⟩, ⟨.int .u8, (58 : Int)⟩] = some [yB false] := by
   refine has_no hb (by omega) (fun y hy => ?_) (L + 1) (n + 1)
   have : s.drop (k + w.length) = r := by rw [← List.drop_drop, h]; simp
   rw [← List.head?_drop, this] at hy
   exact (hr y hy).2
  show CTp (L + 1) (n + 2 + 1) 91 _ = _
  rw [c91, F91, aFC, aL, a1, dE, d1, aH, d2, aH, d3, aH, d4, aH, d5, aH, Cs_ok, cY, d6]
  simp only [bnT, aH]
  rw [hwd, obL_i]
  show ob (slc s (k : Int) ((k + w.length : Nat) : Int)) _ = _
  rw [hsl, dE, hhs, cY, aH]
  rcases hk with ⟨rfl, hn⟩ | ⟨rfl, x', l', e1, e2, e3, e4, e5⟩
  ·rw [hn.a, obL_nm]
   have e4 : decide (w = ([46] : List UInt8)) = false := by
    cases hd : decide (w = ([46] : List UInt8)) with
    | false => rfl
    | true =>
     exfalso
     simp only [djE] at hd
     have h2 := hn.a
     rw [hd] at h2
     rw [Nm_no (x := 46) (w := []) (by decide) (by decide)] at h2
     cases h2
   rw [e4, aH]
   simp only [aI]
   rw [hn.b, obL_s]
   show cnd (decide (([49] : List UInt8) = [48])) _ _ = _
   rw [show decide (([49] : List UInt8) = [48]) = false by decide, aH, hn.d, obL_s, obL_s]
   show obL (D := U0.D) [.str, .str] (CTp (L + 1) (n + 2) 86 [yT w, yT [49]]) _ = _
   rw [hn.e, obL_s2]
   show obL (D := U0.D) [.int .i64] (CTp (L + 1) (n + 2) 121 [yT w]) _ = _
   rw [hn.f, obL_i]
   show cnd (decide ((100 : Int) < 1)) _ _ = _
   rw [show decide ((100 : Int) < 1) = false by decide, aH]
   show obL (D := U0.D) [.int .i64] (CTp (L + 1) (n + 2) 121 [yT [49]]) _ = _
   rw [hn.g, obL_i]
   rfl
  ·rw [e1, Nm_no e2 e3, ← e1, obL_nm]
   have e6 : decide (w = ([46] : List UInt8)) = false := by simpa using e4
   rw [e6, aH]
   simp only [aH]
   rw [Nd_ok e5, obL_se]
   rfl
theorem On_op {s r : List UInt8} {k L n : Nat} (hb : s.length < 1000000000) (h : s.drop k = 40 :: r) : CTp L (n + 1) 91 [yT s, yI (k : Int)] = some [yR 18 ⟨1, (k : Int), [], [], []⟩, yI ((k + 1 : Nat) : Int), yR 17 ⟨0, 0⟩] := by
 obtain ⟨a1, a2, a3⟩ := aV h
 rw [c91, F91, aFC, aL, a1, dE, dF (by omega)]
 rfl
theorem On_cl {s r : List UInt8} {k L n : Nat} (hb : s.length < 1000000000) (h : s.drop k = 41 :: r) : CTp L (n + 1) 91 [yT s, yI (k : Int)] = some [yR 18 ⟨2, (k : Int), [], [], []⟩, yI ((k + 1 : Nat) : Int), yR 17 ⟨0, 0⟩] := by
 obtain ⟨a1, a2, a3⟩ := aV h
 rw [c91, F91, aFC, aL, a1, dE, dF (by omega)]
 rfl
end Go.TV
namespace Go.TV
open Go.AI Go.PI Go.Proofs
theorem obL_lr {β : Type} {b : List G.R} {K : List G.R × Unit → Option β} : obL (D := U0.D) [.sl (.rc 21)] (some [yS 21 b]) K = K (b, ()) := rfl
def rowsL : List G.R := match B83x0 (fun _ _ => none) with
 | some l => (match cR (D := U0.D) [.sl (.rc 21)] l with | some r => r.1 | none => [])
 | none => []
theorem rows_ok {L n : Nat} : CTp L (n + 1) 83 [] = some [yS 21 rowsL] := by
 rw [c83]; rfl
theorem rows_len : rowsL.length < 1000 := by decide +kernel
def oK (s : List UInt8) : List G.R → Option Int
 | [] => none
 | r :: l => if r.name = s then some r.arity else oK s l
def arity (s : G.Y) : Option Int := if s.package = kS then oK s.name rowsL else none
def oI (o : Option Int) : TVs := match o with
 | some k => [yI k, yB true]
 | none => [yI (0 : Int), yB false]
theorem Ar_loop {c : TC0} {L : Nat} {t : G.Y} {a : List G.R} (hb : a.length < 1000000000) : ∀ (l : List G.R) (k m : Nat), a.drop k = l → l.length < m →
    zD c L m a (k : Int) t = some (oI (oK t.name l)) := by
 intro l
 induction l with
 | nil =>
  intro k m h1 h3
  obtain ⟨m, rfl⟩ : ∃ m', m = m' + 1 := ⟨m - 1, by simp at h3; omega⟩
  have e1 := aW h1
  have e3 : decide ((k : Int) < (a.length : Int)) = false := by simp; omega
  rw [zD, B71x1, e3, aH]; rfl
 | cons x l ih =>
  intro k m h1 h3
  obtain ⟨m, rfl⟩ : ∃ m', m = m' + 1 := ⟨m - 1, by simp at h3; omega⟩
  obtain ⟨a1, a2, a3⟩ := aV h1
  have e3 : decide ((k : Int) < (a.length : Int)) = true := by simp; omega
  rw [zD, B71x1, e3, aI, aL, a1, dE, dF (by omega), oK]
  by_cases e : x.name = t.name
  ·simp only [e, decide_true, aI, dE, if_true, oI]
  ·simp only [e, decide_false, aH, if_false]
   exact ih (k + 1) m a3 (by simp at h3; omega)
theorem ArR_ok (s : G.Y) (L n : Nat) (hL : 1000 ≤ L) : CTp L (n + 2) 71 [yR 1 s] = some (oI (arity s)) := by
 have hl := rows_len
 rw [c71, F71, B71x0]
 by_cases e : s.package = kS
 ·have e' : decide (s.package = ([108, 105, 115, 112] : List UInt8)) = true := decide_eq_true e
  have ea : arity s = oK s.name rowsL := by simp [arity, e]
  rw [e', ea, rows_ok, obL_lr]
  exact Ar_loop (a := rowsL) (by omega) rowsL 0 L rfl (by omega)
 ·have e' : decide (s.package = ([108, 105, 115, 112] : List UInt8)) = false := decide_eq_false e
  have ea : arity s = none := by simp [arity, e]
  rw [e', ea]; rfl
end Go.TV
