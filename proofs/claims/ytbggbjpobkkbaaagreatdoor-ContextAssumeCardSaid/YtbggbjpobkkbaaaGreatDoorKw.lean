import Derived.Test.YtbggbjpobkkbaaaGreatDoorKr
set_option linter.unusedVariables false
set_option linter.unusedSimpArgs false
set_option linter.constructorNameAsVariable false
namespace Go.TV
open Go.AI Go.PI Go.Proofs
set_option maxRecDepth 20000
noncomputable section
variable (c : TC0) (e : Cu) (L : Nat)
def B19x0 (c : TC0) (a0 : G.T) : Rt :=
 obL [.bool] (c 42 [yR 3 a0, yT ([110, 111, 116] : List UInt8), yI (1 : Int)]) fun (r0 : Bool × Unit) =>
 cnd r0.1 (ob (idx a0.args (0 : Int)) fun v1 =>
 some [yR 3 v1]) (obL [.rc 3] (c 43 [yT ([110, 111, 116] : List UInt8), yS 3 ([a0] : List G.T)]) fun (r2 : G.T × Unit) =>
 some [yR 3 r2.1])
def V19x0 (n : Nt) : G.T → Rt := fun x0 => n [yR 3 x0]
theorem s19x0 : V19x0 (xF ii19 c e) = B19x0 c := by kernel_rfl
def F19 (c : TC0) (L : Nat) : G.T → Rt := B19x0 c
theorem e19 : V19x0 (xF ii19 c (cu c L)) = F19 c L := s19x0 _ _
theorem c19 (a0 : G.T) (L n : Nat) : CTp L (n + 1) 19 [yR 3 a0] = F19 (CTp L n) L a0 := by rw [← e19]; exact cg (x := ii19) (by kernel_rfl) (by kernel_rfl) L n _
def aCH (c : TC0) (e : Cu) : Kt := xK yY
def q20x1 (c : TC0) (e : Cu) : Kt := xT yY c e [1, 1, 1] (aCH c e)
def q20x2 (c : TC0) (e : Cu) : Kt := xT yY c e [1, 1, 1, 0, 1, 1, 1, 0, 1, 1, 1] (aCH c e)
def q20x3 (c : TC0) (e : Cu) : Kt := eJ U0 1 (q20x2 c e)
def B20x0 (c : TC0) (k1 : Bool → Int → List G.E → Int → G.Z → G.T → Rt) (a1 : List G.E) (a2 : Int) (b0 : G.Z) : Rt :=
 obL [i6, .rc 0] (c 17 [yI (12 : Int), yR 0 b0]) fun (r0 : Int × G.Z × Unit) =>
 cnd (decide (a2 < (1 : Int))) (k1 (decide ((3 : Int) < r0.1)) r0.1 a1 a2 r0.2.1 (G.T.mk (0 : Int) (G.Y.mk ([] : List UInt8) ([] : List UInt8)) (G.O.mk (0 : Int) ([] : List UInt8) ([] : List UInt8) (G.Y.mk ([] : List UInt8) ([] : List UInt8)) ([] : List UInt8) ([] : List G.O)) ([] : List G.T))) (k1 false r0.1 a1 a2 r0.2.1 (G.T.mk (0 : Int) (G.Y.mk ([] : List UInt8) ([] : List UInt8)) (G.O.mk (0 : Int) ([] : List UInt8) ([] : List UInt8) (G.Y.mk ([] : List UInt8) ([] : List UInt8)) ([] : List UInt8) ([] : List G.O)) ([] : List G.T)))
def V20x0 (n : Nt) : List G.E → Int → G.Z → Rt := fun x0 x1 x2 => n [yS 15 x0, yI x1, yR 0 x2]
def B20x1 (c : TC0) (k2 : Int → List G.E → Int → G.Z → G.T → Rt) (a22 : Bool) (a7 : Int) (a1 : List G.E) (a2 : Int) (b0 : G.Z) (b106 : G.T) : Rt :=
 cnd a22 (chk (!decide ((4 : Int) = 0)) <|
 k2 (Int.tmod a7 (4 : Int)) a1 a2 b0 b106) (k2 a7 a1 a2 b0 b106)
def V20x1 (n : Nt) : Bool → Int → List G.E → Int → G.Z → G.T → Rt := fun x0 x1 x2 x3 x4 x5 => n [yB x0, yI x1, yS 15 x2, yI x3, yR 0 x4, yR 3 x5]
def X20x1 := V20x1 (xD yY e [1, 1, 0, 1, 0] aFM (q20x1 c e))
def B20x2 (c : TC0) (k3 : List G.E → Int → G.Z → G.Y → G.T → Rt) (a7 : Int) (a1 : List G.E) (a2 : Int) (b0 : G.Z) (b106 : G.T) : Rt :=
 cnd (decide (a7 < (3 : Int))) (obL [.rc 3, .rc 0] (c 21 [yR 0 b0]) fun (r0 : G.T × G.Z × Unit) =>
 some [yR 3 r0.1, yR 0 r0.2.1]) (cnd (decide (a7 = (3 : Int))) (obL [.rc 2, .rc 0] (c 44 [yI (1 : Int), yR 0 b0]) fun (r1 : G.O × G.Z × Unit) =>
 obL [.rc 3] (c 45 [yR 2 r1.1]) fun (r2 : G.T × Unit) =>
 some [yR 3 r2.1, yR 0 r1.2.1]) (obL [(.sl .str)] (c 46 []) fun (r3 : (List (List UInt8)) × Unit) =>
 obL [(.sl .str)] (c 47 []) fun (r4 : (List (List UInt8)) × Unit) =>
 obL [i6, .rc 0] (c 17 [yI (4 : Int), yR 0 b0]) fun (r5 : Int × G.Z × Unit) =>
 cnd (decide (r5.1 < (3 : Int))) (obL [i6, .rc 0] (c 17 [yI (List.length r3.1 : Int), yR 0 r5.2.1]) fun (r6 : Int × G.Z × Unit) =>
 ob (idx r3.1 r6.1) fun v7 =>
 obL [.rc 1] (c 48 [yT v7]) fun (r8 : G.Y × Unit) =>
 k3 a1 a2 r6.2.1 r8.1 b106) (obL [i6, .rc 0] (c 17 [yI (List.length r4.1 : Int), yR 0 r5.2.1]) fun (r9 : Int × G.Z × Unit) =>
 ob (idx r4.1 r9.1) fun v10 =>
 obL [.rc 1] (c 16 [yT v10]) fun (r11 : G.Y × Unit) =>
 k3 a1 a2 r9.2.1 r11.1 b106)))
def V20x2 (n : Nt) : Int → List G.E → Int → G.Z → G.T → Rt := fun x0 x1 x2 x3 x4 => n [yI x0, yS 15 x1, yI x2, yR 0 x3, yR 3 x4]
def X20x2 := V20x2 (xD yY e [1, 1, 1, 0] aFL (aCH c e))
def B20x3 (c : TC0) (e4 : Int → List G.E → Int → Int → List G.T → G.Z → G.Y → G.T → Rt) (a1 : List G.E) (a2 : Int) (b0 : G.Z) (b108 : G.Y) (b106 : G.T) : Rt :=
 obL [i6, .bool] (c 49 [yS 15 a1, yR 1 b108]) fun (r0 : Int × Bool × Unit) =>
 e4 r0.1 a1 a2 (0 : Int) ([] : List G.T) b0 b108 b106
def V20x3 (n : Nt) : List G.E → Int → G.Z → G.Y → G.T → Rt := fun x0 x1 x2 x3 x4 => n [yS 15 x0, yI x1, yR 0 x2, yR 1 x3, yR 3 x4]
def X20x3 := V20x3 (xD yY e [1, 1, 1, 0, 1, 1, 1, 0] aFK (aCH c e))
def B20x4 (c : TC0) (n4 : Int → List G.E → Int → Int → List G.T → G.Z → G.Y → G.T → Rt) (a11 : Int) (a1 : List G.E) (a2 : Int) (a14 : Int) (a13 : List G.T) (b0 : G.Z) (b108 : G.Y) (b106 : G.T) : Rt :=
 cnd (decide (a14 < a11)) (obL [.rc 3, .rc 0] (c 20 [yS 15 a1, yI (IntKind.i64.wrap (a2 - (1 : Int))), yR 0 b0]) fun (r0 : G.T × G.Z × Unit) =>
 chk (Nat.ble ((List.length a13 + List.length ([r0.1] : List G.T)) * 176) 1073741824) <|
 n4 a11 a1 a2 (IntKind.i64.wrap (a14 + (1 : Int))) (a13 ++ ([r0.1] : List G.T)) r0.2.1 b108 b106) (obL [.rc 3] (c 40 [yR 1 b108, yS 3 a13]) fun (r1 : G.T × Unit) =>
 some [yR 3 r1.1, yR 0 b0])
def V20x4 (n : Nt) : Int → List G.E → Int → Int → List G.T → G.Z → G.Y → G.T → Rt := fun x0 x1 x2 x3 x4 x5 x6 x7 => n [yI x0, yS 15 x1, yI x2, yI x3, yS 3 x4, yR 0 x5, yR 1 x6, yR 3 x7]
def X20x4 := V20x4 (xE yY e [1, 1, 1, 0, 1, 1, 1, 0, 1, 1, 0, 1, 0, 0] xM (q20x3 c e))
theorem s20x0 : V20x0 (xF yY c e) = B20x0 c (X20x1 c e) := by kernel_rfl
theorem s20x1 : V20x1 (xA yY c e [1, 1, 0, 1, 0] aFM (q20x1 c e)) = B20x1 c (X20x2 c e) := by kernel_rfl
theorem s20x2 : V20x2 (xA yY c e [1, 1, 1, 0] aFL (aCH c e)) = B20x2 c (X20x3 c e) := by kernel_rfl
theorem s20x3 : V20x3 (xA yY c e [1, 1, 1, 0, 1, 1, 1, 0] aFK (aCH c e)) = B20x3 c (X20x4 c e) := by kernel_rfl
theorem s20x4 (n4 : Nt) : V20x4 (xA yY c e [1, 1, 1, 0, 1, 1, 1, 0, 1, 1, 0, 1, 0, 0] xM (lpK U0 xM n4 (q20x3 c e))) = B20x4 c (V20x4 n4) := by kernel_rfl
def aAO (c : TC0) (L : Nat) : Nat → Int → List G.E → Int → Int → List G.T → G.Z → G.Y → G.T → Rt
 | 0 => fun _ _ _ _ _ _ _ _ => none
 | n + 1 => B20x4 c (aAO c L n)
theorem u20x4 (n : Nat) : V20x4 (xL yY c L [1, 1, 1, 0, 1, 1, 1, 0, 1, 1, 0, 1, 0, 0] xM (q20x3 c (cu c L)) n) = aAO c L n := by
 induction n with
 | zero => rfl
 | succ n ih => rw [iQ, s20x4]; simp only [ih]; rfl
theorem w20x4 : X20x4 c (cu c L) = aAO c L L := u20x4 c L L
def J20x3 (c : TC0) (L : Nat) : List G.E → Int → G.Z → G.Y → G.T → Rt := B20x3 c (aAO c L L)
theorem j20x3 : X20x3 c (cu c L) = J20x3 c L := by rw [X20x3, bN, s20x3]; simp only [w20x4]; rfl
def aGE (c : TC0) (L : Nat) : Int → List G.E → Int → G.Z → G.T → Rt := B20x2 c (J20x3 c L)
theorem j20x2 : X20x2 c (cu c L) = aGE c L := by rw [X20x2, bN, s20x2]; simp only [j20x3]; rfl
def aDi (c : TC0) (L : Nat) : Bool → Int → List G.E → Int → G.Z → G.T → Rt := B20x1 c (aGE c L)
theorem j20x1 : X20x1 c (cu c L) = aDi c L := by rw [X20x1, bN, s20x1]; simp only [j20x2]; rfl
def F20 (c : TC0) (L : Nat) : List G.E → Int → G.Z → Rt := B20x0 c (aDi c L)
theorem e20 : V20x0 (xF yY c (cu c L)) = F20 c L := by rw [s20x0]; simp only [j20x1]; rfl
theorem c20 (a1 : List G.E) (a2 : Int) (b0 : G.Z) (L n : Nat) : CTp L (n + 1) 20 [yS 15 a1, yI a2, yR 0 b0] = F20 (CTp L n) L a1 a2 b0 := by rw [← e20]; exact cg (x := yY) (by kernel_rfl) (by kernel_rfl) L n _
def B21x0 (c : TC0) (b0 : G.Z) : Rt :=
 obL [i6, .rc 0] (c 17 [yI (3 : Int), yR 0 b0]) fun (r0 : Int × G.Z × Unit) =>
 ob (slc ([120, 121, 122] : List UInt8) r0.1 (List.length ([120, 121, 122] : List UInt8) : Int)) fun v1 =>
 ob (slc v1 (0 : Int) (1 : Int)) fun v2 =>
 obL [.rc 3] (c 11 [yT v2]) fun (r3 : G.T × Unit) =>
 some [yR 3 r3.1, yR 0 r0.2.1]
def V21x0 (n : Nt) : G.Z → Rt := fun x0 => n [yR 0 x0]
theorem s21x0 : V21x0 (xF ii21 c e) = B21x0 c := by kernel_rfl
def F21 (c : TC0) (L : Nat) : G.Z → Rt := B21x0 c
theorem e21 : V21x0 (xF ii21 c (cu c L)) = F21 c L := s21x0 _ _
theorem c21 (b0 : G.Z) (L n : Nat) : CTp L (n + 1) 21 [yR 0 b0] = F21 (CTp L n) L b0 := by rw [← e21]; exact cg (x := ii21) (by kernel_rfl) (by kernel_rfl) L n _
def B22x0 (c : TC0) (a0 : G.T) : Rt :=
 obL [.bool] (c 50 [yR 3 a0, yT ([110, 111, 116] : List UInt8), yI (1 : Int)]) fun (r0 : Bool × Unit) =>
 cnd r0.1 (ob (idx a0.args (0 : Int)) fun v1 =>
 some [yR 3 v1]) (obL [.rc 3] (c 26 [yT ([110, 111, 116] : List UInt8), yS 3 ([a0] : List G.T)]) fun (r2 : G.T × Unit) =>
 some [yR 3 r2.1])
def V22x0 (n : Nt) : G.T → Rt := fun x0 => n [yR 3 x0]
theorem s22x0 : V22x0 (xF ii22 c e) = B22x0 c := by kernel_rfl
def F22 (c : TC0) (L : Nat) : G.T → Rt := B22x0 c
theorem e22 : V22x0 (xF ii22 c (cu c L)) = F22 c L := s22x0 _ _
theorem c22 (a0 : G.T) (L n : Nat) : CTp L (n + 1) 22 [yR 3 a0] = F22 (CTp L n) L a0 := by rw [← e22]; exact cg (x := ii22) (by kernel_rfl) (by kernel_rfl) L n _
def q23x0 (c : TC0) (e : Cu) : Kt := xK ii23
def B23x0 (c : TC0) (k1 : Bool → Rt) (a0 : G.T) (a1 : G.T) : Rt :=
 cnd (decide (a0.kind = a1.kind)) (cnd (decide (a0.name = a1.name)) (obL [.bool] (c 51 [yR 2 a0.value, yR 2 a1.value]) fun (r0 : Bool × Unit) =>
 cnd r0.1 (obL [.bool] (c 52 [yS 3 a0.args, yS 3 a1.args]) fun (r1 : Bool × Unit) =>
 k1 r1.1) (k1 false)) (k1 false)) (k1 false)
def V23x0 (n : Nt) : G.T → G.T → Rt := fun x0 x1 => n [yR 3 x0, yR 3 x1]
def B23x1 (c : TC0) (a4 : Bool) : Rt :=
 some [yB a4]
def V23x1 (n : Nt) : Bool → Rt := fun x0 => n [yB x0]
def X23x1 := V23x1 (xD ii23 e [1, 1, 0] aFJ (q23x0 c e))
theorem s23x0 : V23x0 (xF ii23 c e) = B23x0 c (X23x1 c e) := by kernel_rfl
theorem s23x1 : V23x1 (xA ii23 c e [1, 1, 0] aFJ (q23x0 c e)) = B23x1 c := by kernel_rfl
def J23x1 (c : TC0) (L : Nat) : Bool → Rt := B23x1 c
theorem j23x1 : X23x1 c (cu c L) = J23x1 c L := by rw [X23x1, bN, s23x1]; rfl
def F23 (c : TC0) (L : Nat) : G.T → G.T → Rt := B23x0 c (J23x1 c L)
theorem e23 : V23x0 (xF ii23 c (cu c L)) = F23 c L := by rw [s23x0]; simp only [j23x1]; rfl
theorem c23 (a0 : G.T) (a1 : G.T) (L n : Nat) : CTp L (n + 1) 23 [yR 3 a0, yR 3 a1] = F23 (CTp L n) L a0 a1 := by rw [← e23]; exact cg (x := ii23) (by kernel_rfl) (by kernel_rfl) L n _
def q24x0 (c : TC0) (e : Cu) : Kt := xK aE0
def q24x1 (c : TC0) (e : Cu) : Kt := xT aE0 c e [1, 1, 1] (q24x0 c e)
def q24x2 (c : TC0) (e : Cu) : Kt := eJ U0 0 (q24x1 c e)
def q24x3 (c : TC0) (e : Cu) (n1 : Nt) : Kt := lpK U0 sL n1 (q24x2 c e)
def B24x0 (c : TC0) (e1 : Int → List G.T → Int → List G.T → Rt) (a0 : List G.T) (a1 : List G.T) : Rt :=
 obL [zS 3] (c 53 [yS 3 a0]) fun (r0 : List G.T × Unit) =>
 e1 (List.length a1 : Int) a1 (0 : Int) r0.1
def V24x0 (n : Nt) : List G.T → List G.T → Rt := fun x0 x1 => n [yS 3 x0, yS 3 x1]
def aGR (c : TC0) (k2 : Int → Int → List G.T → List G.T → Rt) (a11 : Int) (a10 : List G.T) (a12 : Int) (a5 : List G.T) : Rt :=
 cnd (decide (a12 < a11)) (ob (idx a10 a12) fun v0 =>
 obL [.bool] (c 54 [yS 3 a5, yR 3 v0]) fun (r1 : Bool × Unit) =>
 cnd (!r1.1) (chk (Nat.ble ((List.length a5 + List.length ([v0] : List G.T)) * 176) 1073741824) <|
 k2 a12 a11 a10 (a5 ++ ([v0] : List G.T))) (k2 a12 a11 a10 a5)) (some [yS 3 a5])
def aGw (n : Nt) : Int → List G.T → Int → List G.T → Rt := fun x0 x1 x2 x3 => n [yI x0, yS 3 x1, yI x2, yS 3 x3]
def X24x1 := aGw (xE aE0 e [1, 1, 0, 1, 0, 0] sL (q24x2 c e))
def B24x2 (c : TC0) (n1 : Int → List G.T → Int → List G.T → Rt) (a12 : Int) (a11 : Int) (a10 : List G.T) (a5 : List G.T) : Rt :=
 n1 a11 a10 (IntKind.i64.wrap (a12 + (1 : Int))) a5
def V24x2 (n : Nt) : Int → Int → List G.T → List G.T → Rt := fun x0 x1 x2 x3 => n [yI x0, yI x1, yS 3 x2, yS 3 x3]
def X24x2 (n1 : Nt) := V24x2 (xD aE0 e [1, 1, 0, 1, 0, 0, 1, 1, 1, 0] aFI (q24x3 c e n1))
theorem s24x0 : V24x0 (xF aE0 c e) = B24x0 c (X24x1 c e) := by kernel_rfl
theorem s24x1 (n1 : Nt) : aGw (xA aE0 c e [1, 1, 0, 1, 0, 0] sL (lpK U0 sL n1 (q24x2 c e))) = aGR c (X24x2 c e n1) := by kernel_rfl
theorem s24x2 (n1 : Nt) : V24x2 (xA aE0 c e [1, 1, 0, 1, 0, 0, 1, 1, 1, 0] aFI (q24x3 c e n1)) = B24x2 c (aGw n1) := by kernel_rfl
def J24x2 (c : TC0) (L : Nat) (n1 : Int → List G.T → Int → List G.T → Rt) : Int → Int → List G.T → List G.T → Rt := B24x2 c n1
theorem j24x2 (n1 : Nt) : X24x2 c (cu c L) n1 = J24x2 c L (aGw n1) := by rw [X24x2, bN, s24x2]; rfl
def aAN (c : TC0) (L : Nat) : Nat → Int → List G.T → Int → List G.T → Rt
 | 0 => fun _ _ _ _ => none
 | n + 1 => aGR c (J24x2 c L (aAN c L n))
theorem u24x1 (n : Nat) : aGw (xL aE0 c L [1, 1, 0, 1, 0, 0] sL (q24x2 c (cu c L)) n) = aAN c L n := by
 induction n with
 | zero => rfl
 | succ n ih => rw [iQ, s24x1]; simp only [j24x2, ih]; rfl
theorem w24x1 : X24x1 c (cu c L) = aAN c L L := u24x1 c L L
def F24 (c : TC0) (L : Nat) : List G.T → List G.T → Rt := B24x0 c (aAN c L L)
theorem e24 : V24x0 (xF aE0 c (cu c L)) = F24 c L := by rw [s24x0]; simp only [w24x1]; rfl
theorem c24 (a0 : List G.T) (a1 : List G.T) (L n : Nat) : CTp L (n + 1) 24 [yS 3 a0, yS 3 a1] = F24 (CTp L n) L a0 a1 := by rw [← e24]; exact cg (x := aE0) (by kernel_rfl) (by kernel_rfl) L n _
def B26x0 (c : TC0) (a0 : List UInt8) (a1 : List G.T) : Rt :=
 obL [.rc 1] (c 29 [yT a0]) fun (r0 : G.Y × Unit) =>
 obL [.rc 3] (c 40 [yR 1 r0.1, yS 3 a1]) fun (r1 : G.T × Unit) =>
 some [yR 3 r1.1]
def V26x0 (n : Nt) : List UInt8 → List G.T → Rt := fun x0 x1 => n [yT x0, yS 3 x1]
theorem s26x0 : V26x0 (xF ii26 c e) = B26x0 c := by kernel_rfl
def F26 (c : TC0) (L : Nat) : List UInt8 → List G.T → Rt := B26x0 c
theorem e26 : V26x0 (xF ii26 c (cu c L)) = F26 c L := s26x0 _ _
theorem c26 (a0 : List UInt8) (a1 : List G.T) (L n : Nat) : CTp L (n + 1) 26 [yT a0, yS 3 a1] = F26 (CTp L n) L a0 a1 := by rw [← e26]; exact cg (x := ii26) (by kernel_rfl) (by kernel_rfl) L n _
def B27x0 (c : TC0) : Rt :=
 obL [zS 5] (c 55 []) fun (r0 : List G.A × Unit) =>
 obL [.str] (c 56 []) fun (r1 : List UInt8 × Unit) =>
 obL [zS 2, .rc 18] (c 57 [yS 5 r0.1, yT ([108, 105, 115, 112] : List UInt8), yT r1.1]) fun (r2 : List G.O × G.X × Unit) =>
 some [yS 2 r2.1]
def V27x0 (n : Nt) : Rt := n []
theorem s27x0 : V27x0 (xF ii27 c e) = B27x0 c := by kernel_rfl
def F27 (c : TC0) (L : Nat) : Rt := B27x0 c
theorem e27 : V27x0 (xF ii27 c (cu c L)) = F27 c L := s27x0 _ _
theorem c27 (L n : Nat) : CTp L (n + 1) 27 [] = F27 (CTp L n) L := by rw [← e27]; exact cg (x := ii27) (by kernel_rfl) (by kernel_rfl) L n _
def B29x0 (c : TC0) (a0 : List UInt8) : Rt :=
 some [yR 1 (G.Y.mk ([108, 105, 115, 112] : List UInt8) a0)]
def V29x0 (n : Nt) : List UInt8 → Rt := fun x0 => n [yT x0]
theorem s29x0 : V29x0 (xF ii29 c e) = B29x0 c := by kernel_rfl
def F29 (c : TC0) (L : Nat) : List UInt8 → Rt := B29x0 c
theorem e29 : V29x0 (xF ii29 c (cu c L)) = F29 c L := s29x0 _ _
theorem c29 (a0 : List UInt8) (L n : Nat) : CTp L (n + 1) 29 [yT a0] = F29 (CTp L n) L a0 := by rw [← e29]; exact cg (x := ii29) (by kernel_rfl) (by kernel_rfl) L n _
def B40x0 (c : TC0) (a0 : G.Y) (a1 : List G.T) : Rt :=
 some [yR 3 (G.T.mk (3 : Int) a0 (G.O.mk (0 : Int) ([] : List UInt8) ([] : List UInt8) (G.Y.mk ([] : List UInt8) ([] : List UInt8)) ([] : List UInt8) ([] : List G.O)) a1)]
def V40x0 (n : Nt) : G.Y → List G.T → Rt := fun x0 x1 => n [yR 1 x0, yS 3 x1]
theorem s40x0 : V40x0 (xF ii40 c e) = B40x0 c := by kernel_rfl
def F40 (c : TC0) (L : Nat) : G.Y → List G.T → Rt := B40x0 c
theorem e40 : V40x0 (xF ii40 c (cu c L)) = F40 c L := s40x0 _ _
theorem c40 (a0 : G.Y) (a1 : List G.T) (L n : Nat) : CTp L (n + 1) 40 [yR 1 a0, yS 3 a1] = F40 (CTp L n) L a0 a1 := by rw [← e40]; exact cg (x := ii40) (by kernel_rfl) (by kernel_rfl) L n _
def q41x0 (c : TC0) (e : Cu) : Kt := xK ii41
def q41x1 (c : TC0) (e : Cu) : Kt := xT ii41 c e [1, 1] (q41x0 c e)
def q41x2 (c : TC0) (e : Cu) : Kt := eJ U0 0 (q41x1 c e)
def B41x0 (c : TC0) (e1 : List G.T → Int → G.T → Rt) (a0 : List G.T) (a1 : G.T) : Rt :=
 e1 a0 (0 : Int) a1
def V41x0 (n : Nt) : List G.T → G.T → Rt := fun x0 x1 => n [yS 3 x0, yR 3 x1]
def B41x1 (c : TC0) (n1 : List G.T → Int → G.T → Rt) (a0 : List G.T) (a5 : Int) (b103 : G.T) : Rt :=
 cnd (decide (a5 < (List.length a0 : Int))) (ob (idx a0 a5) fun v0 =>
 obL [.bool] (c 23 [yR 3 v0, yR 3 b103]) fun (r1 : Bool × Unit) =>
 cnd r1.1 (some [yB true]) (n1 a0 (IntKind.i64.wrap (a5 + (1 : Int))) b103)) (some [yB false])
def V41x1 (n : Nt) : List G.T → Int → G.T → Rt := fun x0 x1 x2 => n [yS 3 x0, yI x1, yR 3 x2]
def X41x1 := V41x1 (xE ii41 e [1, 0, 1, 0, 0] xJ (q41x2 c e))
theorem s41x0 : V41x0 (xF ii41 c e) = B41x0 c (X41x1 c e) := by kernel_rfl
theorem s41x1 (n1 : Nt) : V41x1 (xA ii41 c e [1, 0, 1, 0, 0] xJ (lpK U0 xJ n1 (q41x2 c e))) = B41x1 c (V41x1 n1) := by kernel_rfl
def aAM (c : TC0) (L : Nat) : Nat → List G.T → Int → G.T → Rt
 | 0 => fun _ _ _ => none
 | n + 1 => B41x1 c (aAM c L n)
theorem u41x1 (n : Nat) : V41x1 (xL ii41 c L [1, 0, 1, 0, 0] xJ (q41x2 c (cu c L)) n) = aAM c L n := by
 induction n with
 | zero => rfl
 | succ n ih => rw [iQ, s41x1]; simp only [ih]; rfl
theorem w41x1 : X41x1 c (cu c L) = aAM c L L := u41x1 c L L
def F41 (c : TC0) (L : Nat) : List G.T → G.T → Rt := B41x0 c (aAM c L L)
theorem e41 : V41x0 (xF ii41 c (cu c L)) = F41 c L := by rw [s41x0]; simp only [w41x1]; rfl
theorem c41 (a0 : List G.T) (a1 : G.T) (L n : Nat) : CTp L (n + 1) 41 [yS 3 a0, yR 3 a1] = F41 (CTp L n) L a0 a1 := by rw [← e41]; exact cg (x := ii41) (by kernel_rfl) (by kernel_rfl) L n _
def q42x0 (c : TC0) (e : Cu) : Kt := xK ii42
def B42x0 (c : TC0) (k1 : Bool → Rt) (a0 : G.T) (a1 : List UInt8) (a2 : Int) : Rt :=
 cnd (decide (a0.kind = (3 : Int))) (cnd (decide (a0.name = (G.Y.mk ([108, 105, 115, 112] : List UInt8) a1))) (k1 (decide ((List.length a0.args : Int) = a2))) (k1 false)) (k1 false)
def V42x0 (n : Nt) : G.T → List UInt8 → Int → Rt := fun x0 x1 x2 => n [yR 3 x0, yT x1, yI x2]
def B42x1 (c : TC0) (a6 : Bool) : Rt :=
 some [yB a6]
def V42x1 (n : Nt) : Bool → Rt := fun x0 => n [yB x0]
def X42x1 := V42x1 (xD ii42 e [1, 1, 0] aFF (q42x0 c e))
theorem s42x0 : V42x0 (xF ii42 c e) = B42x0 c (X42x1 c e) := by kernel_rfl
theorem s42x1 : V42x1 (xA ii42 c e [1, 1, 0] aFF (q42x0 c e)) = B42x1 c := by kernel_rfl
def J42x1 (c : TC0) (L : Nat) : Bool → Rt := B42x1 c
theorem j42x1 : X42x1 c (cu c L) = J42x1 c L := by rw [X42x1, bN, s42x1]; rfl
def F42 (c : TC0) (L : Nat) : G.T → List UInt8 → Int → Rt := B42x0 c (J42x1 c L)
theorem e42 : V42x0 (xF ii42 c (cu c L)) = F42 c L := by rw [s42x0]; simp only [j42x1]; rfl
theorem c42 (a0 : G.T) (a1 : List UInt8) (a2 : Int) (L n : Nat) : CTp L (n + 1) 42 [yR 3 a0, yT a1, yI a2] = F42 (CTp L n) L a0 a1 a2 := by rw [← e42]; exact cg (x := ii42) (by kernel_rfl) (by kernel_rfl) L n _
def B43x0 (c : TC0) (a0 : List UInt8) (a1 : List G.T) : Rt :=
 obL [.rc 3] (c 66 [yR 1 (G.Y.mk ([108, 105, 115, 112] : List UInt8) a0), yS 3 a1]) fun (r0 : G.T × Unit) =>
 some [yR 3 r0.1]
def V43x0 (n : Nt) : List UInt8 → List G.T → Rt := fun x0 x1 => n [yT x0, yS 3 x1]
theorem s43x0 : V43x0 (xF ii43 c e) = B43x0 c := by kernel_rfl
def F43 (c : TC0) (L : Nat) : List UInt8 → List G.T → Rt := B43x0 c
theorem e43 : V43x0 (xF ii43 c (cu c L)) = F43 c L := s43x0 _ _
theorem c43 (a0 : List UInt8) (a1 : List G.T) (L n : Nat) : CTp L (n + 1) 43 [yT a0, yS 3 a1] = F43 (CTp L n) L a0 a1 := by rw [← e43]; exact cg (x := ii43) (by kernel_rfl) (by kernel_rfl) L n _
def q44x0 (c : TC0) (e : Cu) : Kt := xK tY
def q44x1 (c : TC0) (e : Cu) : Kt := xT tY c e [1, 1, 1] (q44x0 c e)
def q44x2 (c : TC0) (e : Cu) : Kt := xT tY c e [1, 1, 1, 0, 1] (q44x0 c e)
def aEd (c : TC0) (e : Cu) : Kt := eJ U0 0 (q44x2 c e)
def q44x4 (c : TC0) (e : Cu) : Kt := xT tY c e [1, 1, 1, 0, 0, 1, 0, 1, 1, 1, 1, 1, 0, 1, 1, 1, 1, 1, 1, 1, 1, 1, 1, 1, 1, 1, 1, 0, 0, 1, 1, 1] (aEd c e)
def q44x5 (c : TC0) (e : Cu) : Kt := eJ U0 1 (q44x4 c e)
def B44x0 (c : TC0) (k1 : Bool → Int → Int → G.Z → G.O → Rt) (a1 : Int) (b0 : G.Z) : Rt :=
 obL [i6, .rc 0] (c 17 [yI (14 : Int), yR 0 b0]) fun (r0 : Int × G.Z × Unit) =>
 cnd (decide (a1 < (1 : Int))) (k1 (decide ((9 : Int) < r0.1)) r0.1 a1 r0.2.1 (G.O.mk (0 : Int) ([] : List UInt8) ([] : List UInt8) (G.Y.mk ([] : List UInt8) ([] : List UInt8)) ([] : List UInt8) ([] : List G.O))) (k1 false r0.1 a1 r0.2.1 (G.O.mk (0 : Int) ([] : List UInt8) ([] : List UInt8) (G.Y.mk ([] : List UInt8) ([] : List UInt8)) ([] : List UInt8) ([] : List G.O)))
def V44x0 (n : Nt) : Int → G.Z → Rt := fun x0 x1 => n [yI x0, yR 0 x1]
def B44x1 (c : TC0) (k2 : Int → Int → G.Z → G.O → Rt) (a17 : Bool) (a5 : Int) (a1 : Int) (b0 : G.Z) (b104 : G.O) : Rt :=
 cnd a17 (k2 (IntKind.i64.wrap (a5 - (8 : Int))) a1 b0 b104) (k2 a5 a1 b0 b104)
def V44x1 (n : Nt) : Bool → Int → Int → G.Z → G.O → Rt := fun x0 x1 x2 x3 x4 => n [yB x0, yI x1, yI x2, yR 0 x3, yR 2 x4]
def X44x1 := V44x1 (xD tY e [1, 1, 0, 1, 0] aFE (q44x1 c e))
def B44x2 (c : TC0) (k3 : Bool → Int → Int → G.Z → G.O → Rt) (a5 : Int) (a1 : Int) (b0 : G.Z) (b104 : G.O) : Rt :=
 cnd (decide (a5 = (0 : Int))) (obL [.rc 2] (c 63 []) fun (r0 : G.O × Unit) =>
 some [yR 2 r0.1, yR 0 b0]) (cnd (decide (a5 = (1 : Int))) (obL [.rc 2] (c 59 []) fun (r1 : G.O × Unit) =>
 some [yR 2 r1.1, yR 0 b0]) (cnd (decide (a5 = (2 : Int))) (k3 (decide (a5 = (2 : Int))) a5 a1 b0 b104) (k3 (decide (a5 = (3 : Int))) a5 a1 b0 b104)))
def V44x2 (n : Nt) : Int → Int → G.Z → G.O → Rt := fun x0 x1 x2 x3 => n [yI x0, yI x1, yR 0 x2, yR 2 x3]
def X44x2 := V44x2 (xD tY e [1, 1, 1, 0] aFD (q44x0 c e))
def B44x3 (c : TC0) (k4 : Bool → Int → G.Z → G.O → Rt) (a27 : Bool) (a20 : Int) (a1 : Int) (b0 : G.Z) (b104 : G.O) : Rt :=
 cnd a27 (obL [i6, .rc 0] (c 17 [yI (7 : Int), yR 0 b0]) fun (r0 : Int × G.Z × Unit) =>
 obL [.rc 2] (c 64 [yI (IntKind.i64.wrap (r0.1 - (3 : Int)))]) fun (r1 : G.O × Unit) =>
 some [yR 2 r1.1, yR 0 r0.2.1]) (cnd (decide (a20 = (4 : Int))) (obL [.rc 2] (c 67 [yT ([49] : List UInt8), yT ([50] : List UInt8)]) fun (r2 : G.O × Unit) =>
 some [yR 2 r2.1, yR 0 b0]) (cnd (decide (a20 = (5 : Int))) (obL [.rc 2] (c 67 [yT ([45, 53] : List UInt8), yT ([51] : List UInt8)]) fun (r3 : G.O × Unit) =>
 some [yR 2 r3.1, yR 0 b0]) (cnd (decide (a20 = (6 : Int))) (obL [i6, .rc 0] (c 17 [yI (3 : Int), yR 0 b0]) fun (r4 : Int × G.Z × Unit) =>
 ob (slc ([97, 98, 99] : List UInt8) r4.1 (List.length ([97, 98, 99] : List UInt8) : Int)) fun v5 =>
 ob (slc v5 (0 : Int) (1 : Int)) fun v6 =>
 obL [.rc 1] (c 16 [yT v6]) fun (r7 : G.Y × Unit) =>
 obL [.rc 2] (c 68 [yR 1 r7.1]) fun (r8 : G.O × Unit) =>
 some [yR 2 r8.1, yR 0 r4.2.1]) (cnd (decide (a20 = (7 : Int))) (obL [i6, .rc 0] (c 17 [yI (3 : Int), yR 0 b0]) fun (r9 : Int × G.Z × Unit) =>
 ob (slc ([112, 113] : List UInt8) (0 : Int) r9.1) fun v10 =>
 obL [.rc 2] (c 69 [yT v10]) fun (r11 : G.O × Unit) =>
 some [yR 2 r11.1, yR 0 r9.2.1]) (cnd (decide (a20 = (8 : Int))) (obL [.rc 2] (c 64 [yI (0 : Int)]) fun (r12 : G.O × Unit) =>
 some [yR 2 r12.1, yR 0 b0]) (cnd (decide (a20 = (9 : Int))) (obL [.rc 2] (c 64 [yI (1 : Int)]) fun (r13 : G.O × Unit) =>
 some [yR 2 r13.1, yR 0 b0]) (cnd (decide (a20 = (10 : Int))) (k4 (decide (a20 = (10 : Int))) a1 b0 b104) (cnd (decide (a20 = (11 : Int))) (k4 (decide (a20 = (11 : Int))) a1 b0 b104) (k4 (decide (a20 = (12 : Int))) a1 b0 b104)))))))))
def V44x3 (n : Nt) : Bool → Int → Int → G.Z → G.O → Rt := fun x0 x1 x2 x3 x4 => n [yB x0, yI x1, yI x2, yR 0 x3, yR 2 x4]
def X44x3 := V44x3 (xD tY e [1, 1, 1, 0, 0, 1, 0, 1, 1, 1, 1, 1, 0] aFC (aEd c e))
def B44x4 (c : TC0) (e5 : Int → Int → Int → List G.O → G.Z → G.O → Rt) (a60 : Bool) (a1 : Int) (b0 : G.Z) (b104 : G.O) : Rt :=
 cnd a60 (obL [i6, .rc 0] (c 17 [yI (4 : Int), yR 0 b0]) fun (r0 : Int × G.Z × Unit) =>
 e5 r0.1 a1 (0 : Int) ([] : List G.O) r0.2.1 b104) (obL [.rc 2, .rc 0] (c 44 [yI (IntKind.i64.wrap (a1 - (1 : Int))), yR 0 b0]) fun (r1 : G.O × G.Z × Unit) =>
 obL [.rc 2, .rc 0] (c 44 [yI (IntKind.i64.wrap (a1 - (1 : Int))), yR 0 r1.2.1]) fun (r2 : G.O × G.Z × Unit) =>
 obL [.rc 2] (c 70 [yR 2 r1.1, yR 2 r2.1]) fun (r3 : G.O × Unit) =>
 some [yR 2 r3.1, yR 0 r2.2.1])
def V44x4 (n : Nt) : Bool → Int → G.Z → G.O → Rt := fun x0 x1 x2 x3 => n [yB x0, yI x1, yR 0 x2, yR 2 x3]
def X44x4 := V44x4 (xD tY e [1, 1, 1, 0, 0, 1, 0, 1, 1, 1, 1, 1, 0, 1, 1, 1, 1, 1, 1, 1, 1, 1, 1, 1, 1, 1, 1, 0] aFB (aEd c e))
def B44x5 (c : TC0) (n5 : Int → Int → Int → List G.O → G.Z → G.O → Rt) (a7 : Int) (a1 : Int) (a8 : Int) (a6 : List G.O) (b0 : G.Z) (b104 : G.O) : Rt :=
 cnd (decide (a8 < a7)) (obL [.rc 2, .rc 0] (c 44 [yI (IntKind.i64.wrap (a1 - (1 : Int))), yR 0 b0]) fun (r0 : G.O × G.Z × Unit) =>
 chk (Nat.ble ((List.length a6 + List.length ([r0.1] : List G.O)) * 112) 1073741824) <|
 n5 a7 a1 (IntKind.i64.wrap (a8 + (1 : Int))) (a6 ++ ([r0.1] : List G.O)) r0.2.1 b104) (obL [.rc 2] (c 71 [yS 2 a6]) fun (r1 : G.O × Unit) =>
 some [yR 2 r1.1, yR 0 b0])
def V44x5 (n : Nt) : Int → Int → Int → List G.O → G.Z → G.O → Rt := fun x0 x1 x2 x3 x4 x5 => n [yI x0, yI x1, yI x2, yS 2 x3, yR 0 x4, yR 2 x5]
def X44x5 := V44x5 (xE tY e [1, 1, 1, 0, 0, 1, 0, 1, 1, 1, 1, 1, 0, 1, 1, 1, 1, 1, 1, 1, 1, 1, 1, 1, 1, 1, 1, 0, 0, 1, 1, 0, 1, 0, 0] xI (q44x5 c e))
theorem s44x0 : V44x0 (xF tY c e) = B44x0 c (X44x1 c e) := by kernel_rfl
theorem s44x1 : V44x1 (xA tY c e [1, 1, 0, 1, 0] aFE (q44x1 c e)) = B44x1 c (X44x2 c e) := by kernel_rfl
theorem s44x2 : V44x2 (xA tY c e [1, 1, 1, 0] aFD (q44x0 c e)) = B44x2 c (X44x3 c e) := by kernel_rfl
theorem s44x3 : V44x3 (xA tY c e [1, 1, 1, 0, 0, 1, 0, 1, 1, 1, 1, 1, 0] aFC (aEd c e)) = B44x3 c (X44x4 c e) := by kernel_rfl
theorem s44x4 : V44x4 (xA tY c e [1, 1, 1, 0, 0, 1, 0, 1, 1, 1, 1, 1, 0, 1, 1, 1, 1, 1, 1, 1, 1, 1, 1, 1, 1, 1, 1, 0] aFB (aEd c e)) = B44x4 c (X44x5 c e) := by kernel_rfl
theorem s44x5 (n5 : Nt) : V44x5 (xA tY c e [1, 1, 1, 0, 0, 1, 0, 1, 1, 1, 1, 1, 0, 1, 1, 1, 1, 1, 1, 1, 1, 1, 1, 1, 1, 1, 1, 0, 0, 1, 1, 0, 1, 0, 0] xI (lpK U0 xI n5 (q44x5 c e))) = B44x5 c (V44x5 n5) := by kernel_rfl
def aAL (c : TC0) (L : Nat) : Nat → Int → Int → Int → List G.O → G.Z → G.O → Rt
 | 0 => fun _ _ _ _ _ _ => none
 | n + 1 => B44x5 c (aAL c L n)
theorem u44x5 (n : Nat) : V44x5 (xL tY c L [1, 1, 1, 0, 0, 1, 0, 1, 1, 1, 1, 1, 0, 1, 1, 1, 1, 1, 1, 1, 1, 1, 1, 1, 1, 1, 1, 0, 0, 1, 1, 0, 1, 0, 0] xI (q44x5 c (cu c L)) n) = aAL c L n := by
 induction n with
 | zero => rfl
 | succ n ih => rw [iQ, s44x5]; simp only [ih]; rfl
theorem w44x5 : X44x5 c (cu c L) = aAL c L L := u44x5 c L L
def aDg (c : TC0) (L : Nat) : Bool → Int → G.Z → G.O → Rt := B44x4 c (aAL c L L)
theorem j44x4 : X44x4 c (cu c L) = aDg c L := by rw [X44x4, bN, s44x4]; simp only [w44x5]; rfl
def J44x3 (c : TC0) (L : Nat) : Bool → Int → Int → G.Z → G.O → Rt := B44x3 c (aDg c L)
theorem j44x3 : X44x3 c (cu c L) = J44x3 c L := by rw [X44x3, bN, s44x3]; simp only [j44x4]; rfl
def aGD (c : TC0) (L : Nat) : Int → Int → G.Z → G.O → Rt := B44x2 c (J44x3 c L)
theorem j44x2 : X44x2 c (cu c L) = aGD c L := by rw [X44x2, bN, s44x2]; simp only [j44x3]; rfl
def aDh (c : TC0) (L : Nat) : Bool → Int → Int → G.Z → G.O → Rt := B44x1 c (aGD c L)
theorem j44x1 : X44x1 c (cu c L) = aDh c L := by rw [X44x1, bN, s44x1]; simp only [j44x2]; rfl
def F44 (c : TC0) (L : Nat) : Int → G.Z → Rt := B44x0 c (aDh c L)
theorem e44 : V44x0 (xF tY c (cu c L)) = F44 c L := by rw [s44x0]; simp only [j44x1]; rfl
theorem c44 (a1 : Int) (b0 : G.Z) (L n : Nat) : CTp L (n + 1) 44 [yI a1, yR 0 b0] = F44 (CTp L n) L a1 b0 := by rw [← e44]; exact cg (x := tY) (by kernel_rfl) (by kernel_rfl) L n _
def B46x0 (c : TC0) : Rt :=
 some [⟨(.sl .str), ([([99, 97, 114] : List UInt8), ([99, 100, 114] : List UInt8), ([99, 111, 110, 115] : List UInt8), ([99, 111, 110, 115, 112] : List UInt8), ([110, 111, 116] : List UInt8), ([101, 113, 117, 97, 108] : List UInt8), ([105, 102] : List UInt8), ([98, 105, 110, 97, 114, 121, 45, 43] : List UInt8), ([60] : List UInt8), ([105, 110, 116, 101, 103, 101, 114, 112] : List UInt8), ([108, 101, 110] : List UInt8), ([98, 105, 110, 97, 114, 121, 45, 97, 112, 112, 101, 110, 100] : List UInt8), ([114, 101, 118] : List UInt8), ([116, 114, 117, 101, 45, 108, 105, 115, 116, 112] : List UInt8), ([110, 97, 116, 112] : List UInt8), ([112, 111, 115, 112] : List UInt8), ([117, 110, 97, 114, 121, 45, 45] : List UInt8), ([98, 105, 110, 97, 114, 121, 45, 42] : List UInt8), ([105, 109, 112, 108, 105, 101, 115] : List UInt8), ([115, 121, 109, 98, 111, 108, 112] : List UInt8), ([114, 97, 116, 105, 111, 110, 97, 108, 112] : List UInt8), ([102, 105, 120] : List UInt8), ([105, 102, 102] : List UInt8), ([110, 102, 105, 120] : List UInt8), ([122, 112] : List UInt8)] : List (List UInt8))⟩]
def V46x0 (n : Nt) : Rt := n []
theorem s46x0 : V46x0 (xF ii46 c e) = B46x0 c := by kernel_rfl
def F46 (c : TC0) (L : Nat) : Rt := B46x0 c
theorem e46 : V46x0 (xF ii46 c (cu c L)) = F46 c L := s46x0 _ _
theorem c46 (L n : Nat) : CTp L (n + 1) 46 [] = F46 (CTp L n) L := by rw [← e46]; exact cg (x := ii46) (by kernel_rfl) (by kernel_rfl) L n _
def B47x0 (c : TC0) : Rt :=
 some [⟨(.sl .str), ([([100, 117, 98] : List UInt8), ([115, 97, 109, 101, 45, 108, 101, 110] : List UInt8), ([112, 97, 105, 114, 115] : List UInt8), ([100, 117, 98, 115] : List UInt8), ([116, 114, 101, 101] : List UInt8), ([101, 118, 101, 110, 115] : List UInt8), ([111, 100, 100, 115] : List UInt8), ([120, 111, 114, 50] : List UInt8)] : List (List UInt8))⟩]
def V47x0 (n : Nt) : Rt := n []
theorem s47x0 : V47x0 (xF ii47 c e) = B47x0 c := by kernel_rfl
def F47 (c : TC0) (L : Nat) : Rt := B47x0 c
theorem e47 : V47x0 (xF ii47 c (cu c L)) = F47 c L := s47x0 _ _
theorem c47 (L n : Nat) : CTp L (n + 1) 47 [] = F47 (CTp L n) L := by rw [← e47]; exact cg (x := ii47) (by kernel_rfl) (by kernel_rfl) L n _
def B49x0 (c : TC0) (a0 : List G.E) (a1 : G.Y) : Rt :=
 obL [i6, .bool] (c 72 [yR 1 a1]) fun (r0 : Int × Bool × Unit) =>
 cnd r0.2.1 (some [yI r0.1, yB true]) (obL [.rc 4, .bool] (c 73 [yS 15 a0, yR 1 a1]) fun (r1 : G.F × Bool × Unit) =>
 cnd (!r1.2.1) (some [yI (0 : Int), yB false]) (some [yI (List.length r1.1.params : Int), yB true]))
def V49x0 (n : Nt) : List G.E → G.Y → Rt := fun x0 x1 => n [yS 15 x0, yR 1 x1]
theorem s49x0 : V49x0 (xF ii49 c e) = B49x0 c := by kernel_rfl
def F49 (c : TC0) (L : Nat) : List G.E → G.Y → Rt := B49x0 c
theorem e49 : V49x0 (xF ii49 c (cu c L)) = F49 c L := s49x0 _ _
theorem c49 (a0 : List G.E) (a1 : G.Y) (L n : Nat) : CTp L (n + 1) 49 [yS 15 a0, yR 1 a1] = F49 (CTp L n) L a0 a1 := by rw [← e49]; exact cg (x := ii49) (by kernel_rfl) (by kernel_rfl) L n _
def q50x0 (c : TC0) (e : Cu) : Kt := xK ii50
def B50x0 (c : TC0) (k1 : Bool → Rt) (a0 : G.T) (a1 : List UInt8) (a2 : Int) : Rt :=
 cnd (decide (a0.kind = (3 : Int))) (obL [.rc 1] (c 29 [yT a1]) fun (r0 : G.Y × Unit) =>
 cnd (decide (a0.name = r0.1)) (k1 (decide ((List.length a0.args : Int) = a2))) (k1 false)) (k1 false)
def V50x0 (n : Nt) : G.T → List UInt8 → Int → Rt := fun x0 x1 x2 => n [yR 3 x0, yT x1, yI x2]
def B50x1 (c : TC0) (a6 : Bool) : Rt :=
 some [yB a6]
def V50x1 (n : Nt) : Bool → Rt := fun x0 => n [yB x0]
def X50x1 := V50x1 (xD ii50 e [1, 1, 0] aFA (q50x0 c e))
theorem s50x0 : V50x0 (xF ii50 c e) = B50x0 c (X50x1 c e) := by kernel_rfl
theorem s50x1 : V50x1 (xA ii50 c e [1, 1, 0] aFA (q50x0 c e)) = B50x1 c := by kernel_rfl
def J50x1 (c : TC0) (L : Nat) : Bool → Rt := B50x1 c
theorem j50x1 : X50x1 c (cu c L) = J50x1 c L := by rw [X50x1, bN, s50x1]; rfl
def F50 (c : TC0) (L : Nat) : G.T → List UInt8 → Int → Rt := B50x0 c (J50x1 c L)
theorem e50 : V50x0 (xF ii50 c (cu c L)) = F50 c L := by rw [s50x0]; simp only [j50x1]; rfl
theorem c50 (a0 : G.T) (a1 : List UInt8) (a2 : Int) (L n : Nat) : CTp L (n + 1) 50 [yR 3 a0, yT a1, yI a2] = F50 (CTp L n) L a0 a1 a2 := by rw [← e50]; exact cg (x := ii50) (by kernel_rfl) (by kernel_rfl) L n _
def q51x0 (c : TC0) (e : Cu) : Kt := xK aDw
def q51x1 (c : TC0) (e : Cu) : Kt := xT aDw c e [1, 1] (q51x0 c e)
def q51x2 (c : TC0) (e : Cu) : Kt := xT aDw c e [1, 1, 1] (q51x0 c e)
def q51x3 (c : TC0) (e : Cu) : Kt := eJ U0 0 (q51x2 c e)
def B51x0 (c : TC0) (k1 : Bool → G.O → G.O → Rt) (a0 : G.O) (a1 : G.O) : Rt :=
 cnd (!decide (a0.kind = a1.kind)) (k1 true a0 a1) (cnd (!decide (a0.num = a1.num)) (k1 true a0 a1) (cnd (!decide (a0.den = a1.den)) (k1 true a0 a1) (cnd (!decide (a0.sym = a1.sym)) (k1 true a0 a1) (cnd (!decide (a0.text = a1.text)) (k1 true a0 a1) (k1 (!decide ((List.length a0.pair : Int) = (List.length a1.pair : Int))) a0 a1)))))
def V51x0 (n : Nt) : G.O → G.O → Rt := fun x0 x1 => n [yR 2 x0, yR 2 x1]
def B51x1 (c : TC0) (e2 : Int → G.O → G.O → Rt) (a47 : Bool) (b102 : G.O) (b103 : G.O) : Rt :=
 cnd a47 (some [yB false]) (e2 (0 : Int) b102 b103)
def V51x1 (n : Nt) : Bool → G.O → G.O → Rt := fun x0 x1 x2 => n [yB x0, yR 2 x1, yR 2 x2]
def X51x1 := V51x1 (xD aDw e [1, 0, 1, 0] aFz (q51x1 c e))
def B51x2 (c : TC0) (n2 : Int → G.O → G.O → Rt) (a5 : Int) (b102 : G.O) (b103 : G.O) : Rt :=
 cnd (decide (a5 < (List.length b102.pair : Int))) (ob (idx b102.pair a5) fun v0 =>
 ob (idx b103.pair a5) fun v1 =>
 obL [.bool] (c 51 [yR 2 v0, yR 2 v1]) fun (r2 : Bool × Unit) =>
 cnd (!r2.1) (some [yB false]) (n2 (IntKind.i64.wrap (a5 + (1 : Int))) b102 b103)) (some [yB true])
def V51x2 (n : Nt) : Int → G.O → G.O → Rt := fun x0 x1 x2 => n [yI x0, yR 2 x1, yR 2 x2]
def X51x2 := V51x2 (xE aDw e [1, 1, 0, 1, 0, 0] xH (q51x3 c e))
theorem s51x0 : V51x0 (xF aDw c e) = B51x0 c (X51x1 c e) := by kernel_rfl
theorem s51x1 : V51x1 (xA aDw c e [1, 0, 1, 0] aFz (q51x1 c e)) = B51x1 c (X51x2 c e) := by kernel_rfl
theorem s51x2 (n2 : Nt) : V51x2 (xA aDw c e [1, 1, 0, 1, 0, 0] xH (lpK U0 xH n2 (q51x3 c e))) = B51x2 c (V51x2 n2) := by kernel_rfl
def aAK (c : TC0) (L : Nat) : Nat → Int → G.O → G.O → Rt
 | 0 => fun _ _ _ => none
 | n + 1 => B51x2 c (aAK c L n)
theorem u51x2 (n : Nat) : V51x2 (xL aDw c L [1, 1, 0, 1, 0, 0] xH (q51x3 c (cu c L)) n) = aAK c L n := by
 induction n with
 | zero => rfl
 | succ n ih => rw [iQ, s51x2]; simp only [ih]; rfl
theorem w51x2 : X51x2 c (cu c L) = aAK c L L := u51x2 c L L
def J51x1 (c : TC0) (L : Nat) : Bool → G.O → G.O → Rt := B51x1 c (aAK c L L)
theorem j51x1 : X51x1 c (cu c L) = J51x1 c L := by rw [X51x1, bN, s51x1]; simp only [w51x2]; rfl
def F51 (c : TC0) (L : Nat) : G.O → G.O → Rt := B51x0 c (J51x1 c L)
theorem e51 : V51x0 (xF aDw c (cu c L)) = F51 c L := by rw [s51x0]; simp only [j51x1]; rfl
theorem c51 (a0 : G.O) (a1 : G.O) (L n : Nat) : CTp L (n + 1) 51 [yR 2 a0, yR 2 a1] = F51 (CTp L n) L a0 a1 := by rw [← e51]; exact cg (x := aDw) (by kernel_rfl) (by kernel_rfl) L n _
def q52x0 (c : TC0) (e : Cu) : Kt := xK ii52
def q52x1 (c : TC0) (e : Cu) : Kt := xT ii52 c e [1, 1, 1] (q52x0 c e)
def q52x2 (c : TC0) (e : Cu) : Kt := eJ U0 0 (q52x1 c e)
def B52x0 (c : TC0) (e1 : List G.T → List G.T → Int → Rt) (a0 : List G.T) (a1 : List G.T) : Rt :=
 cnd (!decide ((List.length a0 : Int) = (List.length a1 : Int))) (some [yB false]) (e1 a0 a1 (0 : Int))
def V52x0 (n : Nt) : List G.T → List G.T → Rt := fun x0 x1 => n [yS 3 x0, yS 3 x1]
def B52x1 (c : TC0) (n1 : List G.T → List G.T → Int → Rt) (a0 : List G.T) (a1 : List G.T) (a5 : Int) : Rt :=
 cnd (decide (a5 < (List.length a0 : Int))) (ob (idx a0 a5) fun v0 =>
 ob (idx a1 a5) fun v1 =>
 obL [.bool] (c 23 [yR 3 v0, yR 3 v1]) fun (r2 : Bool × Unit) =>
 cnd (!r2.1) (some [yB false]) (n1 a0 a1 (IntKind.i64.wrap (a5 + (1 : Int))))) (some [yB true])
def V52x1 (n : Nt) : List G.T → List G.T → Int → Rt := fun x0 x1 x2 => n [yS 3 x0, yS 3 x1, yI x2]
def X52x1 := V52x1 (xE ii52 e [1, 1, 0, 1, 0, 0] xG (q52x2 c e))
theorem s52x0 : V52x0 (xF ii52 c e) = B52x0 c (X52x1 c e) := by kernel_rfl
theorem s52x1 (n1 : Nt) : V52x1 (xA ii52 c e [1, 1, 0, 1, 0, 0] xG (lpK U0 xG n1 (q52x2 c e))) = B52x1 c (V52x1 n1) := by kernel_rfl
def aAJ (c : TC0) (L : Nat) : Nat → List G.T → List G.T → Int → Rt
 | 0 => fun _ _ _ => none
 | n + 1 => B52x1 c (aAJ c L n)
theorem u52x1 (n : Nat) : V52x1 (xL ii52 c L [1, 1, 0, 1, 0, 0] xG (q52x2 c (cu c L)) n) = aAJ c L n := by
 induction n with
 | zero => rfl
 | succ n ih => rw [iQ, s52x1]; simp only [ih]; rfl
theorem w52x1 : X52x1 c (cu c L) = aAJ c L L := u52x1 c L L
def F52 (c : TC0) (L : Nat) : List G.T → List G.T → Rt := B52x0 c (aAJ c L L)
theorem e52 : V52x0 (xF ii52 c (cu c L)) = F52 c L := by rw [s52x0]; simp only [w52x1]; rfl
theorem c52 (a0 : List G.T) (a1 : List G.T) (L n : Nat) : CTp L (n + 1) 52 [yS 3 a0, yS 3 a1] = F52 (CTp L n) L a0 a1 := by rw [← e52]; exact cg (x := ii52) (by kernel_rfl) (by kernel_rfl) L n _
end
end Go.TV
namespace Go.TV
open Go.AI Go.PI Go.Proofs
theorem aEG {P : G.O → Prop} (h : ∀ k n d s t l, (∀ o ∈ l, P o) → P ⟨k, n, d, s, t, l⟩) : ∀ o, P o := fun o =>
 G.O.rec (motive_1 := P) (motive_2 := fun l => ∀ o ∈ l, P o) (fun k n d s t l ih => h k n d s t l ih) (fun o ho => by cases ho)
  (fun o l h1 h2 x hx => by
   cases hx with
   | head => exact h1
   | tail _ hx => exact h2 x hx) o
noncomputable instance : DecidableEq G.O := fun a b => Classical.propDecidable _
mutual
def osz : G.O → Nat
 | ⟨_, _, _, _, _, l⟩ => 2 + qZ l
def qZ : List G.O → Nat
 | [] => 0
 | o :: l => osz o + qZ l + 1
end
theorem dQ {k : Nat} (h : k < 4000000000000000000) : IntKind.i64.wrap ((k : Int) + 1) = ((k + 1 : Nat) : Int) := by
 unfold IntKind.wrap;simp [IntKind.bits, IntKind.signed];omega
theorem aM {α : Type} (l : List α) (k : Nat) : idx l (k : Int) = l[k]? := by
 unfold idx;have : decide (0 ≤ (k : Int)) = true := by simp
 rw [this]; rfl
theorem fE {β : Type} {b : Bool} {K : Bool × Unit → Option β} : obL (D := U0.D) [.bool] (some [yB b]) K = K (b, ()) := rfl
theorem eR {α β : Type} {x : α} {K : α → Option β} : ob (some x) K = K x := rfl
theorem aW {β : Type} {A B : Option β} : cnd true A B = A := rfl
theorem aJ {β : Type} {A B : Option β} : cnd false A B = B := rfl
theorem bD {α : Type} {l : List α} {k : Nat} {x : α} {r : List α} (h : l.drop k = x :: r) : l[k]? = some x ∧ k < l.length ∧ l.drop (k + 1) = r := by
 refine ⟨?_, ?_, ?_⟩
 ·rw [← List.head?_drop, h]; rfl
 ·have := congrArg List.length h; simp at this; omega
 ·rw [← List.tail_drop, h]; rfl
theorem bE {α : Type} {l : List α} {k : Nat} (h : l.drop k = []) : ¬ k < l.length := by
 have := congrArg List.length h; simp at this; omega
def oo (a b : G.O) : TVs := [yR 2 a, yR 2 b]
def bb (b : Bool) : TVs := [yB b]
theorem EqO_loop {c : TC0} {L : Nat} {a b : G.O} (hl : a.pair.length = b.pair.length) (hb : a.pair.length < 1000000000) : ∀ (l r : List G.O) (k m : Nat), a.pair.drop k = l → b.pair.drop k = r → l.length < m →
    (∀ x, x ∈ l → ∀ y, c 51 (oo x y) = some (bb (decide (x = y)))) → aAK c L m (k : Int) a b = some (bb (decide (l = r))) := by
 intro l;induction l with
 | nil =>
  intro r k m h1 h2 h3 _;obtain ⟨m, rfl⟩ : ∃ m', m = m' + 1 := ⟨m - 1, by simp at h3; omega⟩
  have e1 := bE h1;have e2 : r = [] := by rw [← h2]; exact List.drop_eq_nil_of_le (by omega)
  have e3 : decide ((k : Int) < (a.pair.length : Int)) = false := by simp; omega
  rw [aAK, B51x2, e3, e2];simp only [aJ, decide_true]; rfl
 | cons x l ih =>
  intro r k m h1 h2 h3 hc;obtain ⟨m, rfl⟩ : ∃ m', m = m' + 1 := ⟨m - 1, by simp at h3; omega⟩
  obtain ⟨a1, a2, a3⟩ := bD h1;cases r with
  | nil => have := bE h2; omega
  | cons y r =>
   obtain ⟨b1, b2, b3⟩ := bD h2;have e3 : decide ((k : Int) < (a.pair.length : Int)) = true := by simp; omega
   have hxy : c 51 [yR 2 x, yR 2 y] = some [yB (decide (x = y))] := hc x (mhE ..) y;rw [aAK, B51x2, e3, aW, aM, aM, a1, b1, eR, eR, hxy, fE, dQ (by omega)]
   by_cases e : x = y
   ·subst e;simp only [decide_true, bnT, aJ];rw [ih r (k + 1) m a3 b3 (by simp at h3; omega) fun z hz => hc z (mtE _ hz)]
    simp
   ·simp only [e, decide_false, Bool.not_false, aW];simp [e, bb]
def wfO (a : G.O) : Prop := osz a < 1000000000
theorem zN : ∀ (l : List G.O), l.length ≤ qZ l
 | [] => nlR _
 | o :: l => by have := zN l; simp only [lcS, qZ]; omega
theorem fD : ∀ {l : List G.O} {x : G.O}, x ∈ l → osz x ≤ qZ l
 | o :: l, x, h => by
  simp only [qZ];cases h with
  | head => omega
  | tail _ h => have := fD h; omega
theorem Equal_ok : ∀ (a : G.O), wfO a → ∀ (b : G.O) (L n : Nat), osz a ≤ L → osz a ≤ n → CTp L n 51 (oo a b) = some (bb (decide (a = b))) := by
 intro a;induction a using aEG with
 | h k nu d s t l ih =>
  intro hw b L n hL hn;simp only [wfO, osz] at hw hL hn;have hlen := zN l;obtain ⟨n, rfl⟩ : ∃ n', n = n' + 1 := ⟨n - 1, by omega⟩
  cases b with | mk k' nu' d' s' t' l' =>
  show CTp L (n + 1) 51 [yR 2 _, yR 2 _] = _;rw [c51];simp only [F51, B51x0, J51x1, B51x1, G.O.kind, G.O.num, G.O.den, G.O.sym, G.O.text, G.O.pair, G.O.mk.injEq];by_cases e1 : k = k'
  ·by_cases e2 : nu = nu'
   ·by_cases e3 : d = d'
    ·by_cases e4 : s = s'
     ·by_cases e5 : t = t'
      ·by_cases e6 : (l.length : Int) = (l'.length : Int)
       ·simp only [e1, e2, e3, e4, e5, e6, decide_true, bnT, aJ, true_and];have := EqO_loop (c := CTp L n) (L := L) (a := ⟨k, nu, d, s, t, l⟩) (b := ⟨k', nu', d', s', t', l'⟩) (by show l.length = l'.length; omega) (by show l.length < _; omega) l l' 0 L rfl rfl (by omega) fun x hx y => ih x hx (by have := fD hx; simp only [wfO]; omega) y L n (by have := fD hx; omega) (by have := fD hx; omega)
        subst e1 e2 e3 e4 e5;exact this
       ·have e7 : ¬ l = l' := fun h => e6 (by rw [h])
        simp [e1, e2, e3, e4, e5, e6, e7, cnd, bb]
      ·simp [e1, e2, e3, e4, e5, cnd, bb]
     ·simp [e1, e2, e3, e4, cnd, bb]
    ·simp [e1, e2, e3, cnd, bb]
   ·simp [e1, e2, cnd, bb]
  ·simp [e1, cnd, bb]
end Go.TV
namespace Go.TV
open Go.AI Go.PI Go.Proofs
theorem aDO {P : G.T → Prop} (h : ∀ k n v l, (∀ o ∈ l, P o) → P ⟨k, n, v, l⟩) : ∀ o, P o := fun o =>
 G.T.rec (motive_1 := P) (motive_2 := fun l => ∀ o ∈ l, P o) (fun k n v l ih => h k n v l ih) (fun o ho => by cases ho)
  (fun o l h1 h2 x hx => by
   cases hx with
   | head => exact h1
   | tail _ hx => exact h2 x hx) o
noncomputable instance : DecidableEq G.T := fun a b => Classical.propDecidable _
mutual
def tsz : G.T → Nat
 | ⟨_, _, v, l⟩ => 4 + osz v + cP l
def cP : List G.T → Nat
 | [] => 0
 | o :: l => tsz o + cP l + 1
end
theorem fA : ∀ (l : List G.T), l.length ≤ cP l
 | [] => nlR _
 | o :: l => by have := fA l; simp only [lcS, cP]; omega
theorem dY : ∀ {l : List G.T} {x : G.T}, x ∈ l → tsz x ≤ cP l
 | o :: l, x, h => by
  simp only [cP];cases h with
  | head => omega
  | tail _ h => have := dY h; omega
def tt2 (a b : G.T) : TVs := [yR 3 a, yR 3 b]
def ll2 (a b : List G.T) : TVs := [yS 3 a, yS 3 b]
def wfT (a : G.T) : Prop := tsz a < 1000000000
theorem EqA_loop {c : TC0} {L : Nat} {a b : List G.T} (hl : a.length = b.length) (hb : a.length < 1000000000) : ∀ (l r : List G.T) (k m : Nat), a.drop k = l → b.drop k = r → l.length < m →
    (∀ x, x ∈ l → ∀ y, c 23 (tt2 x y) = some (bb (decide (x = y)))) → aAJ c L m a b (k : Int) = some (bb (decide (l = r))) := by
 intro l;induction l with
 | nil =>
  intro r k m h1 h2 h3 _;obtain ⟨m, rfl⟩ : ∃ m', m = m' + 1 := ⟨m - 1, by simp at h3; omega⟩
  have e1 := bE h1;have e2 : r = [] := by rw [← h2]; exact List.drop_eq_nil_of_le (by omega)
  have e3 : decide ((k : Int) < (a.length : Int)) = false := by simp; omega
  rw [aAJ, B52x1, e3, e2];simp only [aJ, decide_true]; rfl
 | cons x l ih =>
  intro r k m h1 h2 h3 hc;obtain ⟨m, rfl⟩ : ∃ m', m = m' + 1 := ⟨m - 1, by simp at h3; omega⟩
  obtain ⟨a1, a2, a3⟩ := bD h1;cases r with
  | nil => have := bE h2; omega
  | cons y r =>
   obtain ⟨b1, b2, b3⟩ := bD h2;have e3 : decide ((k : Int) < (a.length : Int)) = true := by simp; omega
   have hxy : c 23 [yR 3 x, yR 3 y] = some [yB (decide (x = y))] := hc x (mhE ..) y;rw [aAJ, B52x1, e3, aW, aM, aM, a1, b1, eR, eR, hxy, fE, dQ (by omega)]
   by_cases e : x = y
   ·subst e;simp only [decide_true, bnT, aJ];rw [ih r (k + 1) m a3 b3 (by simp at h3; omega) fun z hz => hc z (mtE _ hz)]
    simp
   ·simp only [e, decide_false, Bool.not_false, aW];simp [e, bb]
theorem EqAll_of {a b : List G.T} {L n : Nat} (hw : a.length < 1000000000) (hL : a.length < L) (hx : ∀ x, x ∈ a → ∀ y, CTp L n 23 (tt2 x y) = some (bb (decide (x = y)))) :
    CTp L (n + 1) 52 (ll2 a b) = some (bb (decide (a = b))) := by
 show CTp L (n + 1) 52 [yS 3 _, yS 3 _] = _;rw [c52];simp only [F52, B52x0];by_cases e6 : (a.length : Int) = (b.length : Int)
 ·simp only [e6, decide_true, bnT, aJ];exact EqA_loop (c := CTp L n) (L := L) (by omega) hw a b 0 L rfl rfl hL hx
 ·have e7 : ¬ a = b := fun h => e6 (by rw [h])
  simp [e6, e7, cnd, bb]
theorem EqT_ok : ∀ (a : G.T), wfT a → ∀ (b : G.T) (L n : Nat), tsz a ≤ L → tsz a ≤ n → CTp L n 23 (tt2 a b) = some (bb (decide (a = b))) := by
 intro a;induction a using aDO with
 | h k nm v l ih =>
  intro hw b L n hL hn;simp only [wfT, tsz] at hw hL hn;have hlen := fA l;obtain ⟨n, rfl⟩ : ∃ n', n = n' + 2 := ⟨n - 2, by omega⟩
  cases b with | mk k' nm' v' l' =>
  show CTp L (n + 1 + 1) 23 [yR 3 _, yR 3 _] = _;rw [c23];have hv : CTp L (n + 1) 51 [yR 2 v, yR 2 v'] = some [yB (decide (v = v'))] := Equal_ok v (by simp only [wfO]; omega) v' L (n + 1) (by omega) (by omega)
  have hl : CTp L (n + 1) 52 [yS 3 l, yS 3 l'] = some [yB (decide (l = l'))] := EqAll_of (by omega) (by omega) fun x hx y => ih x hx (by have := dY hx; simp only [wfT]; omega) y L n (by have := dY hx; omega) (by have := dY hx; omega)
  simp only [F23, B23x0, J23x1, B23x1, G.T.kind, G.T.name, G.T.value, G.T.args, G.T.mk.injEq, hv, hl, fE];by_cases e1 : k = k'
  ·by_cases e2 : nm = nm'
   ·by_cases e3 : v = v'
    ·simp [e1, e2, e3, cnd, bb]
    ·simp [e1, e2, e3, cnd, bb]
   ·simp [e1, e2, cnd, bb]
  ·simp [e1, cnd, bb]
end Go.TV
namespace Go.TV
open Go.AI Go.PI Go.Proofs
set_option maxRecDepth 20000
noncomputable section
variable (c : TC0) (e : Cu) (L : Nat)
def aG9 (c : TC0) (a0 : G.T) (b0 : G.T) : Rt :=
 obL [.bool] (c 136 [yR 3 a0, yR 3 b0]) fun (r0 : Bool × Unit) =>
 some [yB r0.1, yR 3 b0]
def V112x0 (n : Nt) : G.T → G.T → Rt := fun x0 x1 => n [yR 3 x0, yR 3 x1]
theorem s112x0 : V112x0 (xF ii112 c e) = aG9 c := by kernel_rfl
def F112 (c : TC0) (L : Nat) : G.T → G.T → Rt := aG9 c
theorem e112 : V112x0 (xF ii112 c (cu c L)) = F112 c L := s112x0 _ _
theorem c112 (a0 : G.T) (b0 : G.T) (L n : Nat) : CTp L (n + 1) 112 [yR 3 a0, yR 3 b0] = F112 (CTp L n) L a0 b0 := by rw [← e112]; exact cg (x := ii112) (by kernel_rfl) (by kernel_rfl) L n _
def q113x0 (c : TC0) (e : Cu) : Kt := xK aAa
def aG8 (c : TC0) (k1 : Bool → Rt) (a0 : Int) : Rt :=
 cnd (decide (a0 = (32 : Int))) (k1 true) (cnd (decide (a0 = (9 : Int))) (k1 true) (cnd (decide (a0 = (10 : Int))) (k1 true) (k1 (decide (a0 = (13 : Int))))))
def V113x0 (n : Nt) : Int → Rt := fun x0 => n [⟨(.int .u8), x0⟩]
def aG7 (c : TC0) (a2 : Bool) : Rt :=
 some [yB a2]
def V113x1 (n : Nt) : Bool → Rt := fun x0 => n [yB x0]
def aGr := V113x1 (xD aAa e [1, 1, 0] aAv (q113x0 c e))
theorem s113x0 : V113x0 (xF aAa c e) = aG8 c (aGr c e) := by kernel_rfl
theorem s113x1 : V113x1 (xA aAa c e [1, 1, 0] aAv (q113x0 c e)) = aG7 c := by kernel_rfl
def aGM (c : TC0) (L : Nat) : Bool → Rt := aG7 c
theorem j113x1 : aGr c (cu c L) = aGM c L := by rw [aGr, bN, s113x1]; rfl
def F113 (c : TC0) (L : Nat) : Int → Rt := aG8 c (aGM c L)
theorem e113 : V113x0 (xF aAa c (cu c L)) = F113 c L := by rw [s113x0]; simp only [j113x1]; rfl
theorem c113 (a0 : Int) (L n : Nat) : CTp L (n + 1) 113 [⟨(.int .u8), a0⟩] = F113 (CTp L n) L a0 := by rw [← e113]; exact cg (x := aAa) (by kernel_rfl) (by kernel_rfl) L n _
def q114x0 (c : TC0) (e : Cu) : Kt := xK zZ
def aG6 (c : TC0) (k1 : Bool → Rt) (a0 : List UInt8) (a1 : Int) (a2 : Int) (a3 : Int) : Rt :=
 cnd (decide ((0 : Int) ≤ a1)) (cnd (decide ((IntKind.i64.wrap (a1 + (1 : Int))) < (List.length a0 : Int))) (ob (idx a0 a1) fun v0 =>
 cnd (decide ((v0.toNat : Int) = a2)) (ob (idx a0 (IntKind.i64.wrap (a1 + (1 : Int)))) fun v1 =>
 k1 (decide ((v1.toNat : Int) = a3))) (k1 false)) (k1 false)) (k1 false)
def V114x0 (n : Nt) : List UInt8 → Int → Int → Int → Rt := fun x0 x1 x2 x3 => n [yT x0, yI x1, ⟨(.int .u8), x2⟩, ⟨(.int .u8), x3⟩]
def aG5 (c : TC0) (a8 : Bool) : Rt :=
 some [yB a8]
def V114x1 (n : Nt) : Bool → Rt := fun x0 => n [yB x0]
def aGq := V114x1 (xD zZ e [1, 1, 0] aAu (q114x0 c e))
theorem s114x0 : V114x0 (xF zZ c e) = aG6 c (aGq c e) := by kernel_rfl
theorem s114x1 : V114x1 (xA zZ c e [1, 1, 0] aAu (q114x0 c e)) = aG5 c := by kernel_rfl
def aGL (c : TC0) (L : Nat) : Bool → Rt := aG5 c
theorem j114x1 : aGq c (cu c L) = aGL c L := by rw [aGq, bN, s114x1]; rfl
def F114 (c : TC0) (L : Nat) : List UInt8 → Int → Int → Int → Rt := aG6 c (aGL c L)
theorem e114 : V114x0 (xF zZ c (cu c L)) = F114 c L := by rw [s114x0]; simp only [j114x1]; rfl
theorem c114 (a0 : List UInt8) (a1 : Int) (a2 : Int) (a3 : Int) (L n : Nat) : CTp L (n + 1) 114 [yT a0, yI a1, ⟨(.int .u8), a2⟩, ⟨(.int .u8), a3⟩] = F114 (CTp L n) L a0 a1 a2 a3 := by rw [← e114]; exact cg (x := zZ) (by kernel_rfl) (by kernel_rfl) L n _
def q116x0 (c : TC0) (e : Cu) : Kt := xK wH
def q116x1 (c : TC0) (e : Cu) : Kt := xT wH c e [1, 1] (q116x0 c e)
def q116x2 (c : TC0) (e : Cu) : Kt := eJ U0 0 (q116x1 c e)
def aG4 (c : TC0) (k1 : Bool → G.K → G.X → Rt) (a0 : G.K) (a1 : Bool) : Rt :=
 cnd (decide ((40 : Int) < (List.length a0.text : Int))) (obL [.rc 18] (c 76 [yI (2 : Int), yI a0.pos]) fun (r0 : G.X × Unit) =>
 some [yR 18 r0.1]) (cnd a1 (cnd (decide (a0.text = ([] : List UInt8))) (k1 true a0 (G.X.mk (0 : Int) (0 : Int))) (cnd (!decide (a0.package = ([] : List UInt8))) (obL [.bool] (c 137 [yT a0.package]) fun (r1 : Bool × Unit) =>
 k1 (!r1.1) a0 (G.X.mk (0 : Int) (0 : Int))) (k1 false a0 (G.X.mk (0 : Int) (0 : Int))))) (cnd (!decide (a0.package = ([] : List UInt8))) (obL [.bool] (c 137 [yT a0.package]) fun (r2 : Bool × Unit) =>
 k1 (!r2.1) a0 (G.X.mk (0 : Int) (0 : Int))) (k1 false a0 (G.X.mk (0 : Int) (0 : Int)))))
def V116x0 (n : Nt) : G.K → Bool → Rt := fun x0 x1 => n [yR 19 x0, yB x1]
def B116x1 (c : TC0) (a13 : Bool) (b102 : G.K) (b104 : G.X) : Rt :=
 cnd a13 (obL [.rc 18] (c 76 [yI (3 : Int), yI b102.pos]) fun (r0 : G.X × Unit) =>
 some [yR 18 r0.1]) (some [yR 18 (G.X.mk (0 : Int) (0 : Int))])
def V116x1 (n : Nt) : Bool → G.K → G.X → Rt := fun x0 x1 x2 => n [yB x0, yR 19 x1, yR 18 x2]
def aGp := V116x1 (xD wH e [1, 0, 0, 1, 1, 1, 0] aAt (q116x2 c e))
theorem s116x0 : V116x0 (xF wH c e) = aG4 c (aGp c e) := by kernel_rfl
theorem s116x1 : V116x1 (xA wH c e [1, 0, 0, 1, 1, 1, 0] aAt (q116x2 c e)) = B116x1 c := by kernel_rfl
def J116x1 (c : TC0) (L : Nat) : Bool → G.K → G.X → Rt := B116x1 c
theorem j116x1 : aGp c (cu c L) = J116x1 c L := by rw [aGp, bN, s116x1]; rfl
def F116 (c : TC0) (L : Nat) : G.K → Bool → Rt := aG4 c (J116x1 c L)
theorem e116 : V116x0 (xF wH c (cu c L)) = F116 c L := by rw [s116x0]; simp only [j116x1]; rfl
theorem c116 (a0 : G.K) (a1 : Bool) (L n : Nat) : CTp L (n + 1) 116 [yR 19 a0, yB a1] = F116 (CTp L n) L a0 a1 := by rw [← e116]; exact cg (x := wH) (by kernel_rfl) (by kernel_rfl) L n _
def q117x0 (c : TC0) (e : Cu) : Kt := xK zY
def aG3 (c : TC0) (k1 : Bool → Rt) (a0 : Int) : Rt :=
 cnd (decide ((33 : Int) ≤ a0)) (cnd (decide (a0 ≤ (126 : Int))) (cnd (!decide (a0 = (40 : Int))) (cnd (!decide (a0 = (41 : Int))) (cnd (!decide (a0 = (39 : Int))) (cnd (!decide (a0 = (34 : Int))) (cnd (!decide (a0 = (59 : Int))) (cnd (!decide (a0 = (124 : Int))) (k1 (!decide (a0 = (58 : Int)))) (k1 false)) (k1 false)) (k1 false)) (k1 false)) (k1 false)) (k1 false)) (k1 false)) (k1 false)
def V117x0 (n : Nt) : Int → Rt := fun x0 => n [⟨(.int .u8), x0⟩]
def aG2 (c : TC0) (a2 : Bool) : Rt :=
 some [yB a2]
def V117x1 (n : Nt) : Bool → Rt := fun x0 => n [yB x0]
def aGo := V117x1 (xD zY e [1, 1, 0] aAs (q117x0 c e))
theorem s117x0 : V117x0 (xF zY c e) = aG3 c (aGo c e) := by kernel_rfl
theorem s117x1 : V117x1 (xA zY c e [1, 1, 0] aAs (q117x0 c e)) = aG2 c := by kernel_rfl
def aGK (c : TC0) (L : Nat) : Bool → Rt := aG2 c
theorem j117x1 : aGo c (cu c L) = aGK c L := by rw [aGo, bN, s117x1]; rfl
def F117 (c : TC0) (L : Nat) : Int → Rt := aG3 c (aGK c L)
theorem e117 : V117x0 (xF zY c (cu c L)) = F117 c L := by rw [s117x0]; simp only [j117x1]; rfl
theorem c117 (a0 : Int) (L n : Nat) : CTp L (n + 1) 117 [⟨(.int .u8), a0⟩] = F117 (CTp L n) L a0 := by rw [← e117]; exact cg (x := zY) (by kernel_rfl) (by kernel_rfl) L n _
def q118x0 (c : TC0) (e : Cu) : Kt := xK oG
def q118x1 (c : TC0) (e : Cu) : Kt := xT oG c e [1, 1] (q118x0 c e)
def aBe (c : TC0) (e : Cu) : Kt := eJ U0 0 (q118x1 c e)
def q118x3 (c : TC0) (e : Cu) (n1 : Nt) : Kt := lpK U0 nK n1 (aBe c e)
def q118x4 (c : TC0) (e : Cu) (n1 : Nt) : Kt := xT oG c e [1, 0, 0, 0, 1] (q118x3 c e n1)
def aG1 (c : TC0) (e1 : List UInt8 → Int → Rt) (a0 : List UInt8) (a1 : Int) : Rt :=
 e1 a0 a1
def V118x0 (n : Nt) : List UInt8 → Int → Rt := fun x0 x1 => n [yT x0, yI x1]
def aCs (c : TC0) (k2 : Bool → List UInt8 → Int → Rt) (a0 : List UInt8) (a1 : Int) : Rt :=
 cnd (decide (a1 < (List.length a0 : Int))) (ob (idx a0 a1) fun v0 =>
 obL [.bool] (c 117 [⟨(.int .u8), (v0.toNat : Int)⟩]) fun (r1 : Bool × Unit) =>
 k2 r1.1 a0 a1) (k2 false a0 a1)
def yM (n : Nt) : List UInt8 → Int → Rt := fun x0 x1 => n [yT x0, yI x1]
def X118x1 := yM (xE oG e [1, 0, 0, 0] nK (aBe c e))
def yU (c : TC0) (n1 : List UInt8 → Int → Rt) (a14 : Bool) (a0 : List UInt8) (a1 : Int) : Rt :=
 cnd a14 (n1 a0 (IntKind.i64.wrap (a1 + (1 : Int)))) (some [yI a1])
def V118x2 (n : Nt) : Bool → List UInt8 → Int → Rt := fun x0 x1 x2 => n [yB x0, yT x1, yI x2]
def aGn (n1 : Nt) := V118x2 (xD oG e [1, 0, 0, 0, 0, 1, 0] aAr (q118x4 c e n1))
theorem s118x0 : V118x0 (xF oG c e) = aG1 c (X118x1 c e) := by kernel_rfl
theorem s118x1 (n1 : Nt) : yM (xA oG c e [1, 0, 0, 0] nK (lpK U0 nK n1 (aBe c e))) = aCs c (aGn c e n1) := by kernel_rfl
theorem s118x2 (n1 : Nt) : V118x2 (xA oG c e [1, 0, 0, 0, 0, 1, 0] aAr (q118x4 c e n1)) = yU c (yM n1) := by kernel_rfl
def yO (c : TC0) (L : Nat) (n1 : List UInt8 → Int → Rt) : Bool → List UInt8 → Int → Rt := yU c n1
theorem j118x2 (n1 : Nt) : aGn c (cu c L) n1 = yO c L (yM n1) := by rw [aGn, bN, s118x2]; rfl
def qQ (c : TC0) (L : Nat) : Nat → List UInt8 → Int → Rt
 | 0 => fun _ _ => none
 | n + 1 => aCs c (yO c L (qQ c L n))
theorem u118x1 (n : Nat) : yM (xL oG c L [1, 0, 0, 0] nK (aBe c (cu c L)) n) = qQ c L n := by
 induction n with
 | zero => rfl
 | succ n ih => rw [iQ, s118x1]; simp only [j118x2, ih]; rfl
theorem w118x1 : X118x1 c (cu c L) = qQ c L L := u118x1 c L L
def F118 (c : TC0) (L : Nat) : List UInt8 → Int → Rt := aG1 c (qQ c L L)
theorem e118 : V118x0 (xF oG c (cu c L)) = F118 c L := by rw [s118x0]; simp only [w118x1]; rfl
theorem c118 (a0 : List UInt8) (a1 : Int) (L n : Nat) : CTp L (n + 1) 118 [yT a0, yI a1] = F118 (CTp L n) L a0 a1 := by rw [← e118]; exact cg (x := oG) (by kernel_rfl) (by kernel_rfl) L n _
def rS (c : TC0) (e : Cu) : Kt := xK eS
def q120x1 (c : TC0) (e : Cu) : Kt := xT eS c e [1, 1, 1] (rS c e)
def q120x2 (c : TC0) (e : Cu) : Kt := xT eS c e [1, 1, 1, 0, 1, 1] (rS c e)
def aBd (c : TC0) (e : Cu) : Kt := eJ U0 0 (q120x2 c e)
def q120x4 (c : TC0) (e : Cu) (n3 : Nt) : Kt := lpK U0 nJ n3 (aBd c e)
def q120x5 (c : TC0) (e : Cu) (n3 : Nt) : Kt := xT eS c e [1, 1, 1, 0, 1, 0, 0, 0, 1] (q120x4 c e n3)
def q120x6 (c : TC0) (e : Cu) : Kt := xT eS c e [1, 1, 1, 0, 1, 1, 1, 1, 1] (rS c e)
def q120x7 (c : TC0) (e : Cu) : Kt := xT eS c e [1, 1, 1, 0, 1, 1, 1, 1, 1, 1] (rS c e)
def aBc (c : TC0) (e : Cu) : Kt := eJ U0 2 (q120x7 c e)
def q120x9 (c : TC0) (e : Cu) (n6 : Nt) : Kt := lpK U0 nI n6 (aBc c e)
def q120x10 (c : TC0) (e : Cu) (n6 : Nt) : Kt := xT eS c e [1, 1, 1, 0, 1, 1, 1, 1, 1, 0, 1, 0, 0, 1, 1] (q120x9 c e n6)
def aEh (c : TC0) (e : Cu) (n6 : Nt) : Kt := eJ U0 3 (q120x10 c e n6)
def aG0 (c : TC0) (k1 : Bool → Int → List UInt8 → Rt) (a0 : List UInt8) : Rt :=
 cnd (decide ((0 : Int) < (List.length a0 : Int))) (ob (idx a0 (0 : Int)) fun v0 =>
 k1 (decide ((v0.toNat : Int) = (45 : Int))) (0 : Int) a0) (k1 false (0 : Int) a0)
def V120x0 (n : Nt) : List UInt8 → Rt := fun x0 => n [yT x0]
def aGZ (c : TC0) (k2 : Int → List UInt8 → Rt) (a15 : Bool) (a5 : Int) (a0 : List UInt8) : Rt :=
 cnd a15 (k2 (1 : Int) a0) (k2 a5 a0)
def V120x1 (n : Nt) : Bool → Int → List UInt8 → Rt := fun x0 x1 x2 => n [yB x0, yI x1, yT x2]
def aGm := V120x1 (xD eS e [1, 1, 0, 1, 0] aAq (q120x1 c e))
def aGY (c : TC0) (e3 : Int → List UInt8 → Int → Rt) (a5 : Int) (a0 : List UInt8) : Rt :=
 e3 a5 a0 a5
def V120x2 (n : Nt) : Int → List UInt8 → Rt := fun x0 x1 => n [yI x0, yT x1]
def aGl := V120x2 (xD eS e [1, 1, 1, 0] aAp (rS c e))
def aGX (c : TC0) (k4 : Bool → Int → List UInt8 → Int → Rt) (a5 : Int) (a0 : List UInt8) (a6 : Int) : Rt :=
 cnd (decide (a6 < (List.length a0 : Int))) (ob (idx a0 a6) fun v0 =>
 cnd (decide ((48 : Int) ≤ (v0.toNat : Int))) (ob (idx a0 a6) fun v1 =>
 k4 (decide ((v1.toNat : Int) ≤ (57 : Int))) a5 a0 a6) (k4 false a5 a0 a6)) (k4 false a5 a0 a6)
def yL (n : Nt) : Int → List UInt8 → Int → Rt := fun x0 x1 x2 => n [yI x0, yT x1, yI x2]
def X120x3 := yL (xE eS e [1, 1, 1, 0, 1, 0, 0, 0] nJ (aBd c e))
def B120x4 (c : TC0) (n3 : Int → List UInt8 → Int → Rt) (k5 : Bool → List UInt8 → Int → Rt) (a32 : Bool) (a5 : Int) (a0 : List UInt8) (a6 : Int) : Rt :=
 cnd a32 (n3 a5 a0 (IntKind.i64.wrap (a6 + (1 : Int)))) (cnd (decide (a6 = a5)) (some [yT ([] : List UInt8), yT ([] : List UInt8), yB false]) (cnd (decide (a6 = (List.length a0 : Int))) (some [yT a0, yT ([49] : List UInt8), yB true]) (ob (idx a0 a6) fun v0 =>
 cnd (!decide ((v0.toNat : Int) = (47 : Int))) (k5 true a0 a6) (k5 (decide ((IntKind.i64.wrap (a6 + (1 : Int))) = (List.length a0 : Int))) a0 a6))))
def V120x4 (n : Nt) : Bool → Int → List UInt8 → Int → Rt := fun x0 x1 x2 x3 => n [yB x0, yI x1, yT x2, yI x3]
def aGk (n3 : Nt) := V120x4 (xD eS e [1, 1, 1, 0, 1, 0, 0, 0, 0, 1, 0] aAo (q120x5 c e n3))
def B120x5 (c : TC0) (e6 : Int → List UInt8 → Int → Rt) (a53 : Bool) (a0 : List UInt8) (a6 : Int) : Rt :=
 cnd a53 (some [yT ([] : List UInt8), yT ([] : List UInt8), yB false]) (e6 (IntKind.i64.wrap (a6 + (1 : Int))) a0 a6)
def V120x5 (n : Nt) : Bool → List UInt8 → Int → Rt := fun x0 x1 x2 => n [yB x0, yT x1, yI x2]
def aGj := V120x5 (xD eS e [1, 1, 1, 0, 1, 1, 1, 1, 0, 1, 0] aAn (q120x6 c e))
def B120x6 (c : TC0) (k7 : Bool → Int → List UInt8 → Int → Rt) (a7 : Int) (a0 : List UInt8) (a6 : Int) : Rt :=
 cnd (decide (a7 < (List.length a0 : Int))) (ob (idx a0 a7) fun v0 =>
 cnd (decide ((v0.toNat : Int) < (48 : Int))) (k7 true a7 a0 a6) (ob (idx a0 a7) fun v1 =>
 k7 (decide ((57 : Int) < (v1.toNat : Int))) a7 a0 a6)) (ob (slc a0 (0 : Int) a6) fun v2 =>
 ob (slc a0 (IntKind.i64.wrap (a6 + (1 : Int))) (List.length a0 : Int)) fun v3 =>
 some [yT v2, yT v3, yB true])
def yK (n : Nt) : Int → List UInt8 → Int → Rt := fun x0 x1 x2 => n [yI x0, yT x1, yI x2]
def X120x6 := yK (xE eS e [1, 1, 1, 0, 1, 1, 1, 1, 1, 0, 1, 0, 0] nI (aBc c e))
def B120x7 (c : TC0) (n6 : Int → List UInt8 → Int → Rt) (a71 : Bool) (a7 : Int) (a0 : List UInt8) (a6 : Int) : Rt :=
 cnd a71 (some [yT ([] : List UInt8), yT ([] : List UInt8), yB false]) (n6 (IntKind.i64.wrap (a7 + (1 : Int))) a0 a6)
def V120x7 (n : Nt) : Bool → Int → List UInt8 → Int → Rt := fun x0 x1 x2 x3 => n [yB x0, yI x1, yT x2, yI x3]
def aGi (n6 : Nt) := V120x7 (xD eS e [1, 1, 1, 0, 1, 1, 1, 1, 1, 0, 1, 0, 0, 1, 0, 0, 1, 0] aAm (aEh c e n6))
theorem s120x0 : V120x0 (xF eS c e) = aG0 c (aGm c e) := by kernel_rfl
theorem s120x1 : V120x1 (xA eS c e [1, 1, 0, 1, 0] aAq (q120x1 c e)) = aGZ c (aGl c e) := by kernel_rfl
theorem s120x2 : V120x2 (xA eS c e [1, 1, 1, 0] aAp (rS c e)) = aGY c (X120x3 c e) := by kernel_rfl
theorem s120x3 (n3 : Nt) : yL (xA eS c e [1, 1, 1, 0, 1, 0, 0, 0] nJ (lpK U0 nJ n3 (aBd c e))) = aGX c (aGk c e n3) := by kernel_rfl
theorem s120x4 (n3 : Nt) : V120x4 (xA eS c e [1, 1, 1, 0, 1, 0, 0, 0, 0, 1, 0] aAo (q120x5 c e n3)) = B120x4 c (yL n3) (aGj c e) := by kernel_rfl
theorem s120x5 : V120x5 (xA eS c e [1, 1, 1, 0, 1, 1, 1, 1, 0, 1, 0] aAn (q120x6 c e)) = B120x5 c (X120x6 c e) := by kernel_rfl
theorem s120x6 (n6 : Nt) : yK (xA eS c e [1, 1, 1, 0, 1, 1, 1, 1, 1, 0, 1, 0, 0] nI (lpK U0 nI n6 (aBc c e))) = B120x6 c (aGi c e n6) := by kernel_rfl
theorem s120x7 (n6 : Nt) : V120x7 (xA eS c e [1, 1, 1, 0, 1, 1, 1, 1, 1, 0, 1, 0, 0, 1, 0, 0, 1, 0] aAm (aEh c e n6)) = B120x7 c (yK n6) := by kernel_rfl
def J120x7 (c : TC0) (L : Nat) (n6 : Int → List UInt8 → Int → Rt) : Bool → Int → List UInt8 → Int → Rt := B120x7 c n6
theorem j120x7 (n6 : Nt) : aGi c (cu c L) n6 = J120x7 c L (yK n6) := by rw [aGi, bN, s120x7]; rfl
def aCj (c : TC0) (L : Nat) : Nat → Int → List UInt8 → Int → Rt
 | 0 => fun _ _ _ => none
 | n + 1 => B120x6 c (J120x7 c L (aCj c L n))
theorem u120x6 (n : Nat) : yK (xL eS c L [1, 1, 1, 0, 1, 1, 1, 1, 1, 0, 1, 0, 0] nI (aBc c (cu c L)) n) = aCj c L n := by
 induction n with
 | zero => rfl
 | succ n ih => rw [iQ, s120x6]; simp only [j120x7, ih]; rfl
theorem w120x6 : X120x6 c (cu c L) = aCj c L L := u120x6 c L L
def J120x5 (c : TC0) (L : Nat) : Bool → List UInt8 → Int → Rt := B120x5 c (aCj c L L)
theorem j120x5 : aGj c (cu c L) = J120x5 c L := by rw [aGj, bN, s120x5]; simp only [w120x6]; rfl
def aGH (c : TC0) (L : Nat) (n3 : Int → List UInt8 → Int → Rt) : Bool → Int → List UInt8 → Int → Rt := B120x4 c n3 (J120x5 c L)
theorem j120x4 (n3 : Nt) : aGk c (cu c L) n3 = aGH c L (yL n3) := by rw [aGk, bN, s120x4]; simp only [j120x5]; rfl
def sR (c : TC0) (L : Nat) : Nat → Int → List UInt8 → Int → Rt
 | 0 => fun _ _ _ => none
 | n + 1 => aGX c (aGH c L (sR c L n))
theorem u120x3 (n : Nat) : yL (xL eS c L [1, 1, 1, 0, 1, 0, 0, 0] nJ (aBd c (cu c L)) n) = sR c L n := by
 induction n with
 | zero => rfl
 | succ n ih => rw [iQ, s120x3]; simp only [j120x4, ih]; rfl
theorem w120x3 : X120x3 c (cu c L) = sR c L L := u120x3 c L L
def aGI (c : TC0) (L : Nat) : Int → List UInt8 → Rt := aGY c (sR c L L)
theorem j120x2 : aGl c (cu c L) = aGI c L := by rw [aGl, bN, s120x2]; simp only [w120x3]; rfl
def aGJ (c : TC0) (L : Nat) : Bool → Int → List UInt8 → Rt := aGZ c (aGI c L)
theorem j120x1 : aGm c (cu c L) = aGJ c L := by rw [aGm, bN, s120x1]; simp only [j120x2]; rfl
def F120 (c : TC0) (L : Nat) : List UInt8 → Rt := aG0 c (aGJ c L)
theorem e120 : V120x0 (xF eS c (cu c L)) = F120 c L := by rw [s120x0]; simp only [j120x1]; rfl
theorem c120 (a0 : List UInt8) (L n : Nat) : CTp L (n + 1) 120 [yT a0] = F120 (CTp L n) L a0 := by rw [← e120]; exact cg (x := eS) (by kernel_rfl) (by kernel_rfl) L n _
def q123x0 (c : TC0) (e : Cu) : Kt := xK uA
def q123x1 (c : TC0) (e : Cu) : Kt := xT uA c e [1, 1] (q123x0 c e)
def aEg (c : TC0) (e : Cu) : Kt := eJ U0 0 (q123x1 c e)
def B123x0 (c : TC0) (e1 : List UInt8 → List G.A → Int → G.A → Rt) (a0 : List G.A) (a1 : List UInt8) : Rt :=
 e1 a1 a0 (0 : Int) (G.A.mk ([] : List UInt8) ([] : List G.Y))
def V123x0 (n : Nt) : List G.A → List UInt8 → Rt := fun x0 x1 => n [yS 5 x0, yT x1]
def B123x1 (c : TC0) (n1 : List UInt8 → List G.A → Int → G.A → Rt) (a1 : List UInt8) (a0 : List G.A) (a6 : Int) (b104 : G.A) : Rt :=
 cnd (decide (a6 < (List.length a0 : Int))) (ob (idx a0 a6) fun v0 =>
 cnd (decide (v0.name = a1)) (ob (idx a0 a6) fun v1 =>
 some [yR 5 v1, yB true]) (n1 a1 a0 (IntKind.i64.wrap (a6 + (1 : Int))) b104)) (some [yR 5 (G.A.mk ([] : List UInt8) ([] : List G.Y)), yB false])
def aCn (n : Nt) : List UInt8 → List G.A → Int → G.A → Rt := fun x0 x1 x2 x3 => n [yT x0, yS 5 x1, yI x2, yR 5 x3]
def X123x1 := aCn (xE uA e [1, 0, 1, 0, 0] qE (aEg c e))
theorem s123x0 : V123x0 (xF uA c e) = B123x0 c (X123x1 c e) := by kernel_rfl
theorem s123x1 (n1 : Nt) : aCn (xA uA c e [1, 0, 1, 0, 0] qE (lpK U0 qE n1 (aEg c e))) = B123x1 c (aCn n1) := by kernel_rfl
def aCi (c : TC0) (L : Nat) : Nat → List UInt8 → List G.A → Int → G.A → Rt
 | 0 => fun _ _ _ _ => none
 | n + 1 => B123x1 c (aCi c L n)
theorem u123x1 (n : Nat) : aCn (xL uA c L [1, 0, 1, 0, 0] qE (aEg c (cu c L)) n) = aCi c L n := by
 induction n with
 | zero => rfl
 | succ n ih => rw [iQ, s123x1]; simp only [ih]; rfl
theorem w123x1 : X123x1 c (cu c L) = aCi c L L := u123x1 c L L
def F123 (c : TC0) (L : Nat) : List G.A → List UInt8 → Rt := B123x0 c (aCi c L L)
theorem e123 : V123x0 (xF uA c (cu c L)) = F123 c L := by rw [s123x0]; simp only [w123x1]; rfl
theorem c123 (a0 : List G.A) (a1 : List UInt8) (L n : Nat) : CTp L (n + 1) 123 [yS 5 a0, yT a1] = F123 (CTp L n) L a0 a1 := by rw [← e123]; exact cg (x := uA) (by kernel_rfl) (by kernel_rfl) L n _
def q136x0 (c : TC0) (e : Cu) : Kt := xK zX
def aGW (c : TC0) (k1 : Bool → Rt) (a0 : G.T) (a1 : G.T) : Rt :=
 cnd (decide (a0.kind = a1.kind)) (cnd (decide (a0.name = a1.name)) (obL [.bool] (c 147 [yR 2 a0.value, yR 2 a1.value]) fun (r0 : Bool × Unit) =>
 cnd r0.1 (obL [.bool] (c 148 [yS 3 a0.args, yS 3 a1.args]) fun (r1 : Bool × Unit) =>
 k1 r1.1) (k1 false)) (k1 false)) (k1 false)
def V136x0 (n : Nt) : G.T → G.T → Rt := fun x0 x1 => n [yR 3 x0, yR 3 x1]
def aGV (c : TC0) (a4 : Bool) : Rt :=
 some [yB a4]
def V136x1 (n : Nt) : Bool → Rt := fun x0 => n [yB x0]
def aGh := V136x1 (xD zX e [1, 1, 0] aAl (q136x0 c e))
theorem s136x0 : V136x0 (xF zX c e) = aGW c (aGh c e) := by kernel_rfl
theorem s136x1 : V136x1 (xA zX c e [1, 1, 0] aAl (q136x0 c e)) = aGV c := by kernel_rfl
def aGG (c : TC0) (L : Nat) : Bool → Rt := aGV c
theorem j136x1 : aGh c (cu c L) = aGG c L := by rw [aGh, bN, s136x1]; rfl
def F136 (c : TC0) (L : Nat) : G.T → G.T → Rt := aGW c (aGG c L)
theorem e136 : V136x0 (xF zX c (cu c L)) = F136 c L := by rw [s136x0]; simp only [j136x1]; rfl
theorem c136 (a0 : G.T) (a1 : G.T) (L n : Nat) : CTp L (n + 1) 136 [yR 3 a0, yR 3 a1] = F136 (CTp L n) L a0 a1 := by rw [← e136]; exact cg (x := zX) (by kernel_rfl) (by kernel_rfl) L n _
def B144x0 (c : TC0) (a0 : G.T) : Rt :=
 cnd (!decide (a0.kind = (3 : Int))) (some [yS 3 ([] : List G.T)]) (some [yS 3 a0.args])
def V144x0 (n : Nt) : G.T → Rt := fun x0 => n [yR 3 x0]
theorem s144x0 : V144x0 (xF ii144 c e) = B144x0 c := by kernel_rfl
def F144 (c : TC0) (L : Nat) : G.T → Rt := B144x0 c
theorem e144 : V144x0 (xF ii144 c (cu c L)) = F144 c L := s144x0 _ _
theorem c144 (a0 : G.T) (L n : Nat) : CTp L (n + 1) 144 [yR 3 a0] = F144 (CTp L n) L a0 := by rw [← e144]; exact cg (x := ii144) (by kernel_rfl) (by kernel_rfl) L n _
def q147x0 (c : TC0) (e : Cu) : Kt := xK kX
def aBb (c : TC0) (e : Cu) : Kt := eJ U0 0 (q147x0 c e)
def q147x2 (c : TC0) (e : Cu) (n1 : Nt) : Kt := lpK U0 nH n1 (aBb c e)
def q147x3 (c : TC0) (e : Cu) (n1 : Nt) : Kt := eJ U0 1 (q147x2 c e n1)
def q147x4 (c : TC0) (e : Cu) (n1 : Nt) : Kt := xT kX c e [1, 0, 0, 0, 1] (q147x3 c e n1)
def q147x5 (c : TC0) (e : Cu) (n1 : Nt) : Kt := xT kX c e [1, 0, 0, 0, 1, 1, 1, 1] (q147x3 c e n1)
def aEf (c : TC0) (e : Cu) (n1 : Nt) : Kt := eJ U0 2 (q147x5 c e n1)
def B147x0 (c : TC0) (e1 : G.O → G.O → Rt) (a0 : G.O) (a1 : G.O) : Rt :=
 e1 a0 a1
def V147x0 (n : Nt) : G.O → G.O → Rt := fun x0 x1 => n [yR 2 x0, yR 2 x1]
def aGU (c : TC0) (k2 : Bool → G.O → G.O → Rt) (b102 : G.O) (b103 : G.O) : Rt :=
 cnd (!decide (b102.kind = b103.kind)) (k2 true b102 b103) (cnd (!decide (b102.num = b103.num)) (k2 true b102 b103) (cnd (!decide (b102.den = b103.den)) (k2 true b102 b103) (cnd (!decide (b102.sym = b103.sym)) (k2 true b102 b103) (cnd (!decide (b102.text = b103.text)) (k2 true b102 b103) (k2 (!decide ((List.length b102.pair : Int) = (List.length b103.pair : Int))) b102 b103)))))
def qS (n : Nt) : G.O → G.O → Rt := fun x0 x1 => n [yR 2 x0, yR 2 x1]
def X147x1 := qS (xE kX e [1, 0, 0] nH (aBb c e))
def aGT (c : TC0) (e3 : Int → Int → Int → G.O → G.O → Rt) (a48 : Bool) (b102 : G.O) (b103 : G.O) : Rt :=
 cnd a48 (some [yB false]) (cnd (decide ((List.length b102.pair : Int) = (0 : Int))) (some [yB true]) (e3 (IntKind.i64.wrap ((List.length b102.pair : Int) - (1 : Int))) (0 : Int) (List.length b102.pair : Int) b102 b103))
def V147x2 (n : Nt) : Bool → G.O → G.O → Rt := fun x0 x1 x2 => n [yB x0, yR 2 x1, yR 2 x2]
def aGg (n1 : Nt) := V147x2 (xD kX e [1, 0, 0, 0, 0, 1, 0] aAk (q147x4 c e n1))
def aCr (c : TC0) (n3 : Int → Int → Int → G.O → G.O → Rt) (n1 : G.O → G.O → Rt) (a55 : Int) (a56 : Int) (a5 : Int) (b102 : G.O) (b103 : G.O) : Rt :=
 cnd (decide (a56 < a55)) (ob (idx b102.pair a56) fun v0 =>
 ob (idx b103.pair a56) fun v1 =>
 obL [.bool] (c 147 [yR 2 v0, yR 2 v1]) fun (r2 : Bool × Unit) =>
 cnd (!r2.1) (some [yB false]) (n3 a55 (IntKind.i64.wrap (a56 + (1 : Int))) a5 b102 b103)) (ob (idx b102.pair (IntKind.i64.wrap (a5 - (1 : Int)))) fun v3 =>
 ob (idx b103.pair (IntKind.i64.wrap (a5 - (1 : Int)))) fun v4 =>
 n1 v3 v4)
def aCm (n : Nt) : Int → Int → Int → G.O → G.O → Rt := fun x0 x1 x2 x3 x4 => n [yI x0, yI x1, yI x2, yR 2 x3, yR 2 x4]
def X147x3 (n1 : Nt) := aCm (xE kX e [1, 0, 0, 0, 1, 1, 1, 0, 1, 0, 0] qD (aEf c e n1))
theorem s147x0 : V147x0 (xF kX c e) = B147x0 c (X147x1 c e) := by kernel_rfl
theorem s147x1 (n1 : Nt) : qS (xA kX c e [1, 0, 0] nH (lpK U0 nH n1 (aBb c e))) = aGU c (aGg c e n1) := by kernel_rfl
theorem s147x2 (n1 : Nt) : V147x2 (xA kX c e [1, 0, 0, 0, 0, 1, 0] aAk (q147x4 c e n1)) = aGT c (X147x3 c e n1) := by kernel_rfl
theorem s147x3 (n3 : Nt) (n1 : Nt) : aCm (xA kX c e [1, 0, 0, 0, 1, 1, 1, 0, 1, 0, 0] qD (lpK U0 qD n3 (aEf c e n1))) = aCr c (aCm n3) (qS n1) := by kernel_rfl
def qP (c : TC0) (L : Nat) (n1 : G.O → G.O → Rt) : Nat → Int → Int → Int → G.O → G.O → Rt
 | 0 => fun _ _ _ _ _ => none
 | n + 1 => aCr c (qP c L n1 n) n1
theorem u147x3 (n1 : Nt) (n : Nat) : aCm (xL kX c L [1, 0, 0, 0, 1, 1, 1, 0, 1, 0, 0] qD (aEf c (cu c L) n1) n) = qP c L (qS n1) n := by
 induction n with
 | zero => rfl
 | succ n ih => rw [iQ, s147x3]; simp only [ih]; rfl
theorem w147x3 (n1 : Nt) : X147x3 c (cu c L) n1 = qP c L (qS n1) L := u147x3 c L n1 L
def aGF (c : TC0) (L : Nat) (n1 : G.O → G.O → Rt) : Bool → G.O → G.O → Rt := aGT c (qP c L n1 L)
theorem j147x2 (n1 : Nt) : aGg c (cu c L) n1 = aGF c L (qS n1) := by rw [aGg, bN, s147x2]; simp only [w147x3]; rfl
def oB (c : TC0) (L : Nat) : Nat → G.O → G.O → Rt
 | 0 => fun _ _ => none
 | n + 1 => aGU c (aGF c L (oB c L n))
theorem u147x1 (n : Nat) : qS (xL kX c L [1, 0, 0] nH (aBb c (cu c L)) n) = oB c L n := by
 induction n with
 | zero => rfl
 | succ n ih => rw [iQ, s147x1]; simp only [j147x2, ih]; rfl
theorem w147x1 : X147x1 c (cu c L) = oB c L L := u147x1 c L L
def F147 (c : TC0) (L : Nat) : G.O → G.O → Rt := B147x0 c (oB c L L)
theorem e147 : V147x0 (xF kX c (cu c L)) = F147 c L := by rw [s147x0]; simp only [w147x1]; rfl
theorem c147 (a0 : G.O) (a1 : G.O) (L n : Nat) : CTp L (n + 1) 147 [yR 2 a0, yR 2 a1] = F147 (CTp L n) L a0 a1 := by rw [← e147]; exact cg (x := kX) (by kernel_rfl) (by kernel_rfl) L n _
def q148x0 (c : TC0) (e : Cu) : Kt := xK tZ
def q148x1 (c : TC0) (e : Cu) : Kt := xT tZ c e [1, 1, 1] (q148x0 c e)
def aEe (c : TC0) (e : Cu) : Kt := eJ U0 0 (q148x1 c e)
def aGS (c : TC0) (e1 : Int → List G.T → List G.T → Int → Rt) (a0 : List G.T) (a1 : List G.T) : Rt :=
 cnd (!decide ((List.length a0 : Int) = (List.length a1 : Int))) (some [yB false]) (e1 (List.length a0 : Int) a0 a1 (0 : Int))
def V148x0 (n : Nt) : List G.T → List G.T → Rt := fun x0 x1 => n [yS 3 x0, yS 3 x1]
def aCq (c : TC0) (n1 : Int → List G.T → List G.T → Int → Rt) (a16 : Int) (a15 : List G.T) (a1 : List G.T) (a17 : Int) : Rt :=
 cnd (decide (a17 < a16)) (ob (idx a15 a17) fun v0 =>
 ob (idx a1 a17) fun v1 =>
 obL [.bool] (c 136 [yR 3 v0, yR 3 v1]) fun (r2 : Bool × Unit) =>
 cnd (!r2.1) (some [yB false]) (n1 a16 a15 a1 (IntKind.i64.wrap (a17 + (1 : Int))))) (some [yB true])
def aCl (n : Nt) : Int → List G.T → List G.T → Int → Rt := fun x0 x1 x2 x3 => n [yI x0, yS 3 x1, yS 3 x2, yI x3]
def X148x1 := aCl (xE tZ e [1, 1, 0, 1, 0, 0] qC (aEe c e))
theorem s148x0 : V148x0 (xF tZ c e) = aGS c (X148x1 c e) := by kernel_rfl
theorem s148x1 (n1 : Nt) : aCl (xA tZ c e [1, 1, 0, 1, 0, 0] qC (lpK U0 qC n1 (aEe c e))) = aCq c (aCl n1) := by kernel_rfl
def qO (c : TC0) (L : Nat) : Nat → Int → List G.T → List G.T → Int → Rt
 | 0 => fun _ _ _ _ => none
 | n + 1 => aCq c (qO c L n)
theorem u148x1 (n : Nat) : aCl (xL tZ c L [1, 1, 0, 1, 0, 0] qC (aEe c (cu c L)) n) = qO c L n := by
 induction n with
 | zero => rfl
 | succ n ih => rw [iQ, s148x1]; simp only [ih]; rfl
theorem w148x1 : X148x1 c (cu c L) = qO c L L := u148x1 c L L
def F148 (c : TC0) (L : Nat) : List G.T → List G.T → Rt := aGS c (qO c L L)
theorem e148 : V148x0 (xF tZ c (cu c L)) = F148 c L := by rw [s148x0]; simp only [w148x1]; rfl
theorem c148 (a0 : List G.T) (a1 : List G.T) (L n : Nat) : CTp L (n + 1) 148 [yS 3 a0, yS 3 a1] = F148 (CTp L n) L a0 a1 := by rw [← e148]; exact cg (x := tZ) (by kernel_rfl) (by kernel_rfl) L n _
def q149x0 (c : TC0) (e : Cu) : Kt := xK kW
def q149x1 (c : TC0) (e : Cu) : Kt := xT kW c e [1, 1] (q149x0 c e)
def q149x2 (c : TC0) (e : Cu) : Kt := xT kW c e [1, 1, 1] (q149x0 c e)
def aBa (c : TC0) (e : Cu) : Kt := eJ U0 0 (q149x2 c e)
def q149x4 (c : TC0) (e : Cu) (n2 : Nt) : Kt := lpK U0 nG n2 (aBa c e)
def q149x5 (c : TC0) (e : Cu) (n2 : Nt) : Kt := xT kW c e [1, 1, 0, 1, 0, 0, 1, 1] (q149x4 c e n2)
def q149x6 (c : TC0) (e : Cu) (n2 : Nt) : Kt := eJ U0 1 (q149x5 c e n2)
def B149x0 (c : TC0) (k1 : Bool → List UInt8 → Rt) (a0 : List UInt8) : Rt :=
 cnd (decide ((List.length a0 : Int) < (1 : Int))) (k1 true a0) (cnd (decide ((40 : Int) < (List.length a0 : Int))) (k1 true a0) (ob (idx a0 (0 : Int)) fun v0 =>
 cnd (decide ((v0.toNat : Int) < (97 : Int))) (k1 true a0) (ob (idx a0 (0 : Int)) fun v1 =>
 k1 (decide ((122 : Int) < (v1.toNat : Int))) a0)))
def V149x0 (n : Nt) : List UInt8 → Rt := fun x0 => n [yT x0]
def B149x1 (c : TC0) (e2 : List UInt8 → Int → Rt) (a22 : Bool) (a0 : List UInt8) : Rt :=
 cnd a22 (some [yB false]) (e2 a0 (0 : Int))
def V149x1 (n : Nt) : Bool → List UInt8 → Rt := fun x0 x1 => n [yB x0, yT x1]
def aGf := V149x1 (xD kW e [1, 0, 1, 0] aAj (q149x1 c e))
def B149x2 (c : TC0) (k3 : Bool → Int → List UInt8 → Rt) (a0 : List UInt8) (a3 : Int) : Rt :=
 cnd (decide (a3 < (List.length a0 : Int))) (ob (idx a0 a3) fun v0 =>
 cnd (decide ((v0.toNat : Int) < (97 : Int))) (cnd (decide ((v0.toNat : Int) < (48 : Int))) (k3 (!decide ((v0.toNat : Int) = (45 : Int))) a3 a0) (cnd (decide ((57 : Int) < (v0.toNat : Int))) (k3 (!decide ((v0.toNat : Int) = (45 : Int))) a3 a0) (k3 false a3 a0))) (cnd (decide ((122 : Int) < (v0.toNat : Int))) (cnd (decide ((v0.toNat : Int) < (48 : Int))) (k3 (!decide ((v0.toNat : Int) = (45 : Int))) a3 a0) (cnd (decide ((57 : Int) < (v0.toNat : Int))) (k3 (!decide ((v0.toNat : Int) = (45 : Int))) a3 a0) (k3 false a3 a0))) (k3 false a3 a0))) (some [yB true])
def yJ (n : Nt) : List UInt8 → Int → Rt := fun x0 x1 => n [yT x0, yI x1]
def X149x2 := yJ (xE kW e [1, 1, 0, 1, 0, 0] nG (aBa c e))
def B149x3 (c : TC0) (n2 : List UInt8 → Int → Rt) (a49 : Bool) (a3 : Int) (a0 : List UInt8) : Rt :=
 cnd a49 (some [yB false]) (n2 a0 (IntKind.i64.wrap (a3 + (1 : Int))))
def V149x3 (n : Nt) : Bool → Int → List UInt8 → Rt := fun x0 x1 x2 => n [yB x0, yI x1, yT x2]
def aGe (n2 : Nt) := V149x3 (xD kW e [1, 1, 0, 1, 0, 0, 1, 0, 0, 1, 1, 0] aAi (q149x6 c e n2))
theorem s149x0 : V149x0 (xF kW c e) = B149x0 c (aGf c e) := by kernel_rfl
theorem s149x1 : V149x1 (xA kW c e [1, 0, 1, 0] aAj (q149x1 c e)) = B149x1 c (X149x2 c e) := by kernel_rfl
theorem s149x2 (n2 : Nt) : yJ (xA kW c e [1, 1, 0, 1, 0, 0] nG (lpK U0 nG n2 (aBa c e))) = B149x2 c (aGe c e n2) := by kernel_rfl
theorem s149x3 (n2 : Nt) : V149x3 (xA kW c e [1, 1, 0, 1, 0, 0, 1, 0, 0, 1, 1, 0] aAi (q149x6 c e n2)) = B149x3 c (yJ n2) := by kernel_rfl
def J149x3 (c : TC0) (L : Nat) (n2 : List UInt8 → Int → Rt) : Bool → Int → List UInt8 → Rt := B149x3 c n2
theorem j149x3 (n2 : Nt) : aGe c (cu c L) n2 = J149x3 c L (yJ n2) := by rw [aGe, bN, s149x3]; rfl
def aCh (c : TC0) (L : Nat) : Nat → List UInt8 → Int → Rt
 | 0 => fun _ _ => none
 | n + 1 => B149x2 c (J149x3 c L (aCh c L n))
theorem u149x2 (n : Nat) : yJ (xL kW c L [1, 1, 0, 1, 0, 0] nG (aBa c (cu c L)) n) = aCh c L n := by
 induction n with
 | zero => rfl
 | succ n ih => rw [iQ, s149x2]; simp only [j149x3, ih]; rfl
theorem w149x2 : X149x2 c (cu c L) = aCh c L L := u149x2 c L L
def J149x1 (c : TC0) (L : Nat) : Bool → List UInt8 → Rt := B149x1 c (aCh c L L)
theorem j149x1 : aGf c (cu c L) = J149x1 c L := by rw [aGf, bN, s149x1]; simp only [w149x2]; rfl
def F149 (c : TC0) (L : Nat) : List UInt8 → Rt := B149x0 c (J149x1 c L)
theorem e149 : V149x0 (xF kW c (cu c L)) = F149 c L := by rw [s149x0]; simp only [j149x1]; rfl
theorem c149 (a0 : List UInt8) (L n : Nat) : CTp L (n + 1) 149 [yT a0] = F149 (CTp L n) L a0 := by rw [← e149]; exact cg (x := kW) (by kernel_rfl) (by kernel_rfl) L n _
end
end Go.TV
