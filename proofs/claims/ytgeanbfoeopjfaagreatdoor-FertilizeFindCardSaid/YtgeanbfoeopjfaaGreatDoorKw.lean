import Derived.Test.YtgeanbfoeopjfaaGreatDoorKq
import Derived.Test.YtgeanbfoeopjfaaGreatDoorKv
import Derived.Test.YtgeanbfoeopjfaaGreatDoorKt
import Derived.Test.YtgeanbfoeopjfaaGreatDoorKu
import Derived.Test.YtgeanbfoeopjfaaGreatDoorKs
set_option linter.unusedVariables false
set_option linter.unusedSimpArgs false
set_option linter.constructorNameAsVariable false
namespace Go.TV
open Go.AI Go.PI Go.Proofs
set_option maxRecDepth 20000
noncomputable section
variable (c : TC0) (e : Cu) (L : Nat)
def q0x0 (c : TC0) (e : Cu) : Kt := xK ii0
def B0x0 (c : TC0) (k1 : Bool → Rt) (a0 : List Int) : Rt :=
 obL [.bool] (c 1 []) fun (r0 : Bool × Unit) =>
 cnd (!r0.1) (some [yB false]) (cnd (decide ((80 : Int) < (List.length a0 : Int))) (some [yB true]) (obL [zS 15] (c 2 [⟨(.int .u32), (0 : Int)⟩]) fun (r1 : List G.E × Unit) =>
 obL [zS 3, .rc 0] (c 3 [yS 15 r1.1, yR 0 (G.Z.mk a0 (0 : Int))]) fun (r2 : List G.T × G.Z × Unit) =>
 obL [i6, .bool, .bool] (c 4 [yS 3 r2.1]) fun (r3 : Int × Bool × Bool × Unit) =>
 obL [i6, .bool, .bool] (c 5 [yS 3 r2.1]) fun (r4 : Int × Bool × Bool × Unit) =>
 cnd (decide (r3.1 = r4.1)) (cnd (r3.2.1 == r4.2.1) (k1 (r3.2.2.1 == r4.2.2.1)) (k1 false)) (k1 false)))
def V0x0 (n : Nt) : List Int → Rt := fun x0 => n [⟨(.sl (.int .u8)), x0⟩]
def B0x1 (c : TC0) (a2 : Bool) : Rt :=
 some [yB a2]
def V0x1 (n : Nt) : Bool → Rt := fun x0 => n [yB x0]
def X0x1 := V0x1 (xD ii0 e [1, 1, 1, 1, 1, 1, 1, 1, 0] ct0x1 (q0x0 c e))
theorem s0x0 : V0x0 (xF ii0 c e) = B0x0 c (X0x1 c e) := by kernel_rfl
theorem s0x1 : V0x1 (xA ii0 c e [1, 1, 1, 1, 1, 1, 1, 1, 0] ct0x1 (q0x0 c e)) = B0x1 c := by kernel_rfl
def J0x1 (c : TC0) (L : Nat) : Bool → Rt := B0x1 c
theorem j0x1 : X0x1 c (cu c L) = J0x1 c L := by rw [X0x1, aY, s0x1]; rfl
def F0 (c : TC0) (L : Nat) : List Int → Rt := B0x0 c (J0x1 c L)
theorem e0 : V0x0 (xF ii0 c (cu c L)) = F0 c L := by rw [s0x0]; simp only [j0x1]; rfl
theorem c0 (a0 : List Int) (L n : Nat) : CTp L (n + 1) 0 [⟨(.sl (.int .u8)), a0⟩] = F0 (CTp L n) L a0 := by rw [← e0]; exact cg (x := ii0) (by kernel_rfl) (by kernel_rfl) L n _
def q2x0 (c : TC0) (e : Cu) : Kt := xK ii2
def q2x1 (c : TC0) (e : Cu) : Kt := xT ii2 c e [1, 1, 1, 1] (q2x0 c e)
def q2x2 (c : TC0) (e : Cu) : Kt := dD U0 0 (q2x1 c e)
def q2x3 (c : TC0) (e : Cu) : Kt := xT ii2 c e [1, 1, 1, 1, 1, 1] (q2x0 c e)
def q2x4 (c : TC0) (e : Cu) : Kt := dD U0 2 (q2x3 c e)
def q2x5 (c : TC0) (e : Cu) (n2 : Nt) : Kt := lpK U0 aB3 n2 (q2x4 c e)
def B2x0 (c : TC0) (e1 : (List (List G.F)) → Int → Int → List G.E → Rt) (a0 : Int) : Rt :=
 obL [zS 15] (c 8 []) fun (r0 : List G.E × Unit) =>
 obL [.sl (zS 4)] (c 9 []) fun (r1 : (List (List G.F)) × Unit) =>
 e1 r1.1 (0 : Int) a0 r0.1
def V2x0 (n : Nt) : Int → Rt := fun x0 => n [⟨(.int .u32), x0⟩]
def B2x1 (c : TC0) (n1 : (List (List G.F)) → Int → Int → List G.E → Rt) (e2 : Int → List G.L → Int → List G.E → Rt) (a4 : (List (List G.F))) (a5 : Int) (a0 : Int) (a3 : List G.E) : Rt :=
 cnd (decide (a5 < (List.length a4 : Int))) (ob (idx a4 a5) fun v0 =>
 ob (idx v0 (0 : Int)) fun v1 =>
 ob (idx a4 a5) fun v2 =>
 chk (Nat.ble ((List.length a3 + List.length ([(G.E.mk (3 : Int) v1.name (G.A.mk ([] : List UInt8) ([] : List G.Y)) (G.M.mk (G.Y.mk ([] : List UInt8) ([] : List UInt8)) ([] : List G.Y) false (G.T.mk (0 : Int) (G.Y.mk ([] : List UInt8) ([] : List UInt8)) (G.O.mk (0 : Int) ([] : List UInt8) ([] : List UInt8) (G.Y.mk ([] : List UInt8) ([] : List UInt8)) ([] : List UInt8) ([] : List G.O)) ([] : List G.T))) v2 ([] : List G.T) ([] : List (List G.N)) ([] : List G.E) (G.B.mk (G.Y.mk ([] : List UInt8) ([] : List UInt8)) ([] : List G.D)) ([] : List G.U) ([] : List G.Y) ([] : List G.Y) ([] : List UInt8) (0 : Int))] : List G.E)) * 568) 1073741824) <|
 n1 a4 (IntKind.i64.wrap (a5 + (1 : Int))) a0 (a3 ++ ([(G.E.mk (3 : Int) v1.name (G.A.mk ([] : List UInt8) ([] : List G.Y)) (G.M.mk (G.Y.mk ([] : List UInt8) ([] : List UInt8)) ([] : List G.Y) false (G.T.mk (0 : Int) (G.Y.mk ([] : List UInt8) ([] : List UInt8)) (G.O.mk (0 : Int) ([] : List UInt8) ([] : List UInt8) (G.Y.mk ([] : List UInt8) ([] : List UInt8)) ([] : List UInt8) ([] : List G.O)) ([] : List G.T))) v2 ([] : List G.T) ([] : List (List G.N)) ([] : List G.E) (G.B.mk (G.Y.mk ([] : List UInt8) ([] : List UInt8)) ([] : List G.D)) ([] : List G.U) ([] : List G.Y) ([] : List G.Y) ([] : List UInt8) (0 : Int))] : List G.E))) (obL [zS 16] (c 10 []) fun (r3 : List G.L × Unit) =>
 e2 a0 r3.1 (0 : Int) a3)
def V2x1 (n : Nt) : (List (List G.F)) → Int → Int → List G.E → Rt := fun x0 x1 x2 x3 => n [⟨.sl (zS 4), x0⟩, yI x1, ⟨(.int .u32), x2⟩, yS 15 x3]
def X2x1 := V2x1 (xE ii2 e [1, 1, 1, 0, 1, 0, 0] aEB (q2x2 c e))
def B2x2 (c : TC0) (k3 : Int → Int → List G.L → List G.E → Rt) (a0 : Int) (a6 : List G.L) (a7 : Int) (a3 : List G.E) : Rt :=
 cnd (decide (a7 < (List.length a6 : Int))) (chk (decide (0 ≤ a7)) <|
 cnd (decide ((IntKind.u32.wrap ((BitVec.ofInt IntKind.u32.bits (Int.fdiv a0 (2 ^ (min (Int.toNat a7) IntKind.u32.bits))) &&& BitVec.ofInt IntKind.u32.bits (1 : Int)).toNat : Int)) = (0 : Int))) (k3 a7 a0 a6 a3) (ob (idx a6 a7) fun v0 =>
 ob (idx a6 a7) fun v1 =>
 obL [.rc 1] (c 11 [yT v0.name]) fun (r2 : G.Y × Unit) =>
 ob (idx a6 a7) fun v3 =>
 ob (idx a6 a7) fun v4 =>
 none)) (some [yS 15 a3])
def V2x2 (n : Nt) : Int → List G.L → Int → List G.E → Rt := fun x0 x1 x2 x3 => n [⟨(.int .u32), x0⟩, yS 16 x1, yI x2, yS 15 x3]
def X2x2 := V2x2 (xE ii2 e [1, 1, 1, 1, 1, 0, 1, 0, 0] aB3 (q2x4 c e))
def B2x3 (c : TC0) (n2 : Int → List G.L → Int → List G.E → Rt) (a7 : Int) (a0 : Int) (a6 : List G.L) (a3 : List G.E) : Rt :=
 n2 a0 a6 (IntKind.i64.wrap (a7 + (1 : Int))) a3
def V2x3 (n : Nt) : Int → Int → List G.L → List G.E → Rt := fun x0 x1 x2 x3 => n [yI x0, ⟨(.int .u32), x1⟩, yS 16 x2, yS 15 x3]
def X2x3 (n2 : Nt) := V2x3 (xD ii2 e [1, 1, 1, 1, 1, 0, 1, 0, 0, 1, 1, 0] ct2x3 (q2x5 c e n2))
theorem s2x0 : V2x0 (xF ii2 c e) = B2x0 c (X2x1 c e) := by kernel_rfl
theorem s2x1 (n1 : Nt) : V2x1 (xA ii2 c e [1, 1, 1, 0, 1, 0, 0] aEB (lpK U0 aEB n1 (q2x2 c e))) = B2x1 c (V2x1 n1) (X2x2 c e) := by kernel_rfl
theorem s2x2 (n2 : Nt) : V2x2 (xA ii2 c e [1, 1, 1, 1, 1, 0, 1, 0, 0] aB3 (lpK U0 aB3 n2 (q2x4 c e))) = B2x2 c (X2x3 c e n2) := by kernel_rfl
theorem s2x3 (n2 : Nt) : V2x3 (xA ii2 c e [1, 1, 1, 1, 1, 0, 1, 0, 0, 1, 1, 0] ct2x3 (q2x5 c e n2)) = B2x3 c (V2x2 n2) := by kernel_rfl
def J2x3 (c : TC0) (L : Nat) (n2 : Int → List G.L → Int → List G.E → Rt) : Int → Int → List G.L → List G.E → Rt := B2x3 c n2
theorem j2x3 (n2 : Nt) : X2x3 c (cu c L) n2 = J2x3 c L (V2x2 n2) := by rw [X2x3, aY, s2x3]; rfl
def W2x2 (c : TC0) (L : Nat) : Nat → Int → List G.L → Int → List G.E → Rt
 | 0 => fun _ _ _ _ => none
 | n + 1 => B2x2 c (J2x3 c L (W2x2 c L n))
theorem u2x2 (n : Nat) : V2x2 (xL ii2 c L [1, 1, 1, 1, 1, 0, 1, 0, 0] aB3 (q2x4 c (cu c L)) n) = W2x2 c L n := by
 induction n with
 | zero => rfl
 | succ n ih => rw [gW, s2x2]; simp only [j2x3, ih]; rfl
theorem w2x2 : X2x2 c (cu c L) = W2x2 c L L := u2x2 c L L
def W2x1 (c : TC0) (L : Nat) : Nat → (List (List G.F)) → Int → Int → List G.E → Rt
 | 0 => fun _ _ _ _ => none
 | n + 1 => B2x1 c (W2x1 c L n) (W2x2 c L L)
theorem u2x1 (n : Nat) : V2x1 (xL ii2 c L [1, 1, 1, 0, 1, 0, 0] aEB (q2x2 c (cu c L)) n) = W2x1 c L n := by
 induction n with
 | zero => rfl
 | succ n ih => rw [gW, s2x1]; simp only [w2x2, ih]; rfl
theorem w2x1 : X2x1 c (cu c L) = W2x1 c L L := u2x1 c L L
def F2 (c : TC0) (L : Nat) : Int → Rt := B2x0 c (W2x1 c L L)
theorem e2 : V2x0 (xF ii2 c (cu c L)) = F2 c L := by rw [s2x0]; simp only [w2x1]; rfl
theorem c2 (a0 : Int) (L n : Nat) : CTp L (n + 1) 2 [⟨(.int .u32), a0⟩] = F2 (CTp L n) L a0 := by rw [← e2]; exact cg (x := ii2) (by kernel_rfl) (by kernel_rfl) L n _
def q3x0 (c : TC0) (e : Cu) : Kt := xK ii3
def q3x1 (c : TC0) (e : Cu) : Kt := xT ii3 c e [1, 1, 1, 1, 1] (q3x0 c e)
def q3x2 (c : TC0) (e : Cu) : Kt := dD U0 0 (q3x1 c e)
def q3x3 (c : TC0) (e : Cu) (n1 : Nt) : Kt := lpK U0 aB2 n1 (q3x2 c e)
def q3x4 (c : TC0) (e : Cu) (n1 : Nt) : Kt := xT ii3 c e [1, 1, 1, 1, 0, 1, 0, 0, 1, 1] (q3x3 c e n1)
def q3x5 (c : TC0) (e : Cu) (n1 : Nt) : Kt := dD U0 1 (q3x4 c e n1)
def B3x0 (c : TC0) (e1 : Int → List G.E → Int → List G.T → G.Z → G.T → G.T → Rt) (a1 : List G.E) (b0 : G.Z) : Rt :=
 obL [.rc 3, .rc 0] (c 12 [yS 15 a1, yI (2 : Int), yR 0 b0]) fun (r0 : G.T × G.Z × Unit) =>
 obL [.rc 3, .rc 0] (c 12 [yS 15 a1, yI (2 : Int), yR 0 r0.2.1]) fun (r1 : G.T × G.Z × Unit) =>
 obL [zS 3, .rc 0] (c 13 [yS 15 a1, yI (3 : Int), yI (2 : Int), yR 0 r1.2.1]) fun (r2 : List G.T × G.Z × Unit) =>
 obL [i6, .rc 0] (c 14 [yI (4 : Int), yR 0 r2.2.1]) fun (r3 : Int × G.Z × Unit) =>
 e1 r3.1 a1 (0 : Int) r2.1 r3.2.1 r0.1 r1.1
def V3x0 (n : Nt) : List G.E → G.Z → Rt := fun x0 x1 => n [yS 15 x0, yR 0 x1]
def B3x1 (c : TC0) (k2 : List G.T → Int → Int → List G.E → G.Z → G.T → G.T → G.T → Rt) (a8 : Int) (a1 : List G.E) (a9 : Int) (a7 : List G.T) (b0 : G.Z) (b105 : G.T) (b106 : G.T) : Rt :=
 cnd (decide (a9 < a8)) (obL [.rc 3] (c 7 [yT ([101, 113, 117, 97, 108] : List UInt8), yS 3 ([b105, b106] : List G.T)]) fun (r0 : G.T × Unit) =>
 obL [.rc 3] (c 7 [yT ([110, 111, 116] : List UInt8), yS 3 ([r0.1] : List G.T)]) fun (r1 : G.T × Unit) =>
 obL [i6, .rc 0] (c 14 [yI (5 : Int), yR 0 b0]) fun (r2 : Int × G.Z × Unit) =>
 cnd (decide (r2.1 = (0 : Int))) (obL [.rc 3, .rc 0] (c 15 [yR 0 r2.2.1]) fun (r3 : G.T × G.Z × Unit) =>
 obL [.rc 3] (c 7 [yT ([99, 111, 110, 115] : List UInt8), yS 3 ([b105, r3.1] : List G.T)]) fun (r4 : G.T × Unit) =>
 obL [.rc 3, .rc 0] (c 12 [yS 15 a1, yI (1 : Int), yR 0 r3.2.1]) fun (r5 : G.T × G.Z × Unit) =>
 obL [.rc 3] (c 7 [yT ([101, 113, 117, 97, 108] : List UInt8), yS 3 ([r4.1, r5.1] : List G.T)]) fun (r6 : G.T × Unit) =>
 k2 a7 a9 a8 a1 r5.2.1 r6.1 b105 b106) (cnd (decide (r2.1 = (1 : Int))) (obL [.rc 3] (c 7 [yT ([99, 111, 110, 115, 112] : List UInt8), yS 3 ([b106] : List G.T)]) fun (r7 : G.T × Unit) =>
 k2 a7 a9 a8 a1 r2.2.1 r7.1 b105 b106) (cnd (decide (r2.1 = (2 : Int))) (obL [.rc 3, .rc 0] (c 12 [yS 15 a1, yI (1 : Int), yR 0 r2.2.1]) fun (r8 : G.T × G.Z × Unit) =>
 obL [.rc 3] (c 7 [yT ([101, 113, 117, 97, 108] : List UInt8), yS 3 ([b106, r8.1] : List G.T)]) fun (r9 : G.T × Unit) =>
 obL [.rc 3] (c 7 [yT ([110, 111, 116] : List UInt8), yS 3 ([r9.1] : List G.T)]) fun (r10 : G.T × Unit) =>
 k2 a7 a9 a8 a1 r8.2.1 r10.1 b105 b106) (k2 a7 a9 a8 a1 r2.2.1 r1.1 b105 b106)))) (some [yS 3 a7, yR 0 b0])
def V3x1 (n : Nt) : Int → List G.E → Int → List G.T → G.Z → G.T → G.T → Rt := fun x0 x1 x2 x3 x4 x5 x6 => n [yI x0, yS 15 x1, yI x2, yS 3 x3, yR 0 x4, yR 3 x5, yR 3 x6]
def X3x1 := V3x1 (xE ii3 e [1, 1, 1, 1, 0, 1, 0, 0] aB2 (q3x2 c e))
def B3x2 (c : TC0) (n1 : Int → List G.E → Int → List G.T → G.Z → G.T → G.T → Rt) (a7 : List G.T) (a9 : Int) (a8 : Int) (a1 : List G.E) (b0 : G.Z) (b110 : G.T) (b105 : G.T) (b106 : G.T) : Rt :=
 obL [zS 3] (c 16 [yS 3 a7, yS 3 ([b110] : List G.T)]) fun (r0 : List G.T × Unit) =>
 n1 a8 a1 (IntKind.i64.wrap (a9 + (1 : Int))) r0.1 b0 b105 b106
def V3x2 (n : Nt) : List G.T → Int → Int → List G.E → G.Z → G.T → G.T → G.T → Rt := fun x0 x1 x2 x3 x4 x5 x6 x7 => n [yS 3 x0, yI x1, yI x2, yS 15 x3, yR 0 x4, yR 3 x5, yR 3 x6, yR 3 x7]
def X3x2 (n1 : Nt) := V3x2 (xD ii3 e [1, 1, 1, 1, 0, 1, 0, 0, 1, 0, 0, 1, 1, 0] ct3x2 (q3x5 c e n1))
theorem s3x0 : V3x0 (xF ii3 c e) = B3x0 c (X3x1 c e) := by kernel_rfl
theorem s3x1 (n1 : Nt) : V3x1 (xA ii3 c e [1, 1, 1, 1, 0, 1, 0, 0] aB2 (lpK U0 aB2 n1 (q3x2 c e))) = B3x1 c (X3x2 c e n1) := by kernel_rfl
theorem s3x2 (n1 : Nt) : V3x2 (xA ii3 c e [1, 1, 1, 1, 0, 1, 0, 0, 1, 0, 0, 1, 1, 0] ct3x2 (q3x5 c e n1)) = B3x2 c (V3x1 n1) := by kernel_rfl
def J3x2 (c : TC0) (L : Nat) (n1 : Int → List G.E → Int → List G.T → G.Z → G.T → G.T → Rt) : List G.T → Int → Int → List G.E → G.Z → G.T → G.T → G.T → Rt := B3x2 c n1
theorem j3x2 (n1 : Nt) : X3x2 c (cu c L) n1 = J3x2 c L (V3x1 n1) := by rw [X3x2, aY, s3x2]; rfl
def W3x1 (c : TC0) (L : Nat) : Nat → Int → List G.E → Int → List G.T → G.Z → G.T → G.T → Rt
 | 0 => fun _ _ _ _ _ _ _ => none
 | n + 1 => B3x1 c (J3x2 c L (W3x1 c L n))
theorem u3x1 (n : Nat) : V3x1 (xL ii3 c L [1, 1, 1, 1, 0, 1, 0, 0] aB2 (q3x2 c (cu c L)) n) = W3x1 c L n := by
 induction n with
 | zero => rfl
 | succ n ih => rw [gW, s3x1]; simp only [j3x2, ih]; rfl
theorem w3x1 : X3x1 c (cu c L) = W3x1 c L L := u3x1 c L L
def F3 (c : TC0) (L : Nat) : List G.E → G.Z → Rt := B3x0 c (W3x1 c L L)
theorem e3 : V3x0 (xF ii3 c (cu c L)) = F3 c L := by rw [s3x0]; simp only [w3x1]; rfl
theorem c3 (a1 : List G.E) (b0 : G.Z) (L n : Nat) : CTp L (n + 1) 3 [yS 15 a1, yR 0 b0] = F3 (CTp L n) L a1 b0 := by rw [← e3]; exact cg (x := ii3) (by kernel_rfl) (by kernel_rfl) L n _
def q4x0 (c : TC0) (e : Cu) : Kt := xK ii4
def q4x1 (c : TC0) (e : Cu) : Kt := xT ii4 c e [1, 1] (q4x0 c e)
def q4x2 (c : TC0) (e : Cu) : Kt := dD U0 0 (q4x1 c e)
def q4x3 (c : TC0) (e : Cu) (n1 : Nt) : Kt := lpK U0 aB1 n1 (q4x2 c e)
def q4x4 (c : TC0) (e : Cu) (n1 : Nt) : Kt := xT ii4 c e [1, 0, 1, 0, 0, 1, 1, 1] (q4x3 c e n1)
def q4x5 (c : TC0) (e : Cu) (n1 : Nt) : Kt := dD U0 1 (q4x4 c e n1)
def q4x6 (c : TC0) (e : Cu) (n1 : Nt) : Kt := xT ii4 c e [1, 0, 1, 0, 0, 1, 1, 0, 0, 1, 1, 1] (q4x5 c e n1)
def q4x7 (c : TC0) (e : Cu) (n1 : Nt) : Kt := xT ii4 c e [1, 0, 1, 0, 0, 1, 1, 0, 0, 1, 1, 1, 1] (q4x5 c e n1)
def B4x0 (c : TC0) (e1 : Int → List G.T → List G.T → Int → Rt) (a0 : List G.T) : Rt :=
 e1 (List.length a0 : Int) a0 a0 (0 : Int)
def V4x0 (n : Nt) : List G.T → Rt := fun x0 => n [yS 3 x0]
def B4x1 (c : TC0) (k2 : Bool → Int → Int → Int → List G.T → List G.T → G.T → G.T → Rt) (a11 : Int) (a10 : List G.T) (a0 : List G.T) (a12 : Int) : Rt :=
 cnd (decide (a12 < a11)) (ob (idx a10 a12) fun v0 =>
 obL [.rc 3, .rc 3, .bool] (c 17 [yR 3 v0]) fun (r1 : G.T × G.T × Bool × Unit) =>
 cnd (!r1.2.2.1) (k2 true a12 a12 a11 a10 a0 r1.1 r1.2.1) (obL [.bool] (c 18 [yR 3 r1.1, yR 3 r1.2.1]) fun (r2 : Bool × Unit) =>
 k2 r2.1 a12 a12 a11 a10 a0 r1.1 r1.2.1)) (some [yI (0 : Int), yB false, yB false])
def V4x1 (n : Nt) : Int → List G.T → List G.T → Int → Rt := fun x0 x1 x2 x3 => n [yI x0, yS 3 x1, yS 3 x2, yI x3]
def X4x1 := V4x1 (xE ii4 e [1, 0, 1, 0, 0] aB1 (q4x2 c e))
def B4x2 (c : TC0) (k3 : Int → Int → List G.T → List G.T → Rt) (k4 : Bool → Int → Int → Int → List G.T → List G.T → G.T → Rt) (a29 : Bool) (a5 : Int) (a12 : Int) (a11 : Int) (a10 : List G.T) (a0 : List G.T) (b107 : G.T) (b108 : G.T) : Rt :=
 cnd a29 (k3 a12 a11 a10 a0) (cnd (decide (b107.kind = (3 : Int))) (obL [.bool] (c 19 [yS 3 a0, yI a5, yR 3 b107]) fun (r0 : Bool × Unit) =>
 k4 r0.1 a5 a12 a11 a10 a0 b108) (k4 false a5 a12 a11 a10 a0 b108))
def V4x2 (n : Nt) : Bool → Int → Int → Int → List G.T → List G.T → G.T → G.T → Rt := fun x0 x1 x2 x3 x4 x5 x6 x7 => n [yB x0, yI x1, yI x2, yI x3, yS 3 x4, yS 3 x5, yR 3 x6, yR 3 x7]
def X4x2 (n1 : Nt) := V4x2 (xD ii4 e [1, 0, 1, 0, 0, 1, 1, 0, 0, 1, 1, 0, 1, 0] ct4x2 (q4x6 c e n1))
def B4x3 (c : TC0) (n1 : Int → List G.T → List G.T → Int → Rt) (a12 : Int) (a11 : Int) (a10 : List G.T) (a0 : List G.T) : Rt :=
 n1 a11 a10 a0 (IntKind.i64.wrap (a12 + (1 : Int)))
def V4x3 (n : Nt) : Int → Int → List G.T → List G.T → Rt := fun x0 x1 x2 x3 => n [yI x0, yI x1, yS 3 x2, yS 3 x3]
def X4x3 (n1 : Nt) := V4x3 (xD ii4 e [1, 0, 1, 0, 0, 1, 1, 1, 0] ct4x3 (q4x3 c e n1))
def B4x4 (c : TC0) (k5 : Bool → Int → Int → Int → List G.T → List G.T → Rt) (a38 : Bool) (a5 : Int) (a12 : Int) (a11 : Int) (a10 : List G.T) (a0 : List G.T) (b108 : G.T) : Rt :=
 cnd a38 (some [yI a5, yB false, yB true]) (cnd (decide (b108.kind = (3 : Int))) (obL [.bool] (c 19 [yS 3 a0, yI a5, yR 3 b108]) fun (r0 : Bool × Unit) =>
 k5 r0.1 a5 a12 a11 a10 a0) (k5 false a5 a12 a11 a10 a0))
def V4x4 (n : Nt) : Bool → Int → Int → Int → List G.T → List G.T → G.T → Rt := fun x0 x1 x2 x3 x4 x5 x6 => n [yB x0, yI x1, yI x2, yI x3, yS 3 x4, yS 3 x5, yR 3 x6]
def X4x4 (n1 : Nt) := V4x4 (xD ii4 e [1, 0, 1, 0, 0, 1, 1, 0, 0, 1, 1, 1, 0, 1, 0] ct4x4 (q4x7 c e n1))
def B4x5 (c : TC0) (k3 : Int → Int → List G.T → List G.T → Rt) (a48 : Bool) (a5 : Int) (a12 : Int) (a11 : Int) (a10 : List G.T) (a0 : List G.T) : Rt :=
 cnd a48 (some [yI a5, yB true, yB true]) (k3 a12 a11 a10 a0)
def V4x5 (n : Nt) : Bool → Int → Int → Int → List G.T → List G.T → Rt := fun x0 x1 x2 x3 x4 x5 => n [yB x0, yI x1, yI x2, yI x3, yS 3 x4, yS 3 x5]
def X4x5 (n1 : Nt) := V4x5 (xD ii4 e [1, 0, 1, 0, 0, 1, 1, 0, 0, 1, 1, 1, 1, 1, 0] ct4x5 (q4x5 c e n1))
theorem s4x0 : V4x0 (xF ii4 c e) = B4x0 c (X4x1 c e) := by kernel_rfl
theorem s4x1 (n1 : Nt) : V4x1 (xA ii4 c e [1, 0, 1, 0, 0] aB1 (lpK U0 aB1 n1 (q4x2 c e))) = B4x1 c (X4x2 c e n1) := by kernel_rfl
theorem s4x2 (n1 : Nt) : V4x2 (xA ii4 c e [1, 0, 1, 0, 0, 1, 1, 0, 0, 1, 1, 0, 1, 0] ct4x2 (q4x6 c e n1)) = B4x2 c (X4x3 c e n1) (X4x4 c e n1) := by kernel_rfl
theorem s4x3 (n1 : Nt) : V4x3 (xA ii4 c e [1, 0, 1, 0, 0, 1, 1, 1, 0] ct4x3 (q4x3 c e n1)) = B4x3 c (V4x1 n1) := by kernel_rfl
theorem s4x4 (n1 : Nt) : V4x4 (xA ii4 c e [1, 0, 1, 0, 0, 1, 1, 0, 0, 1, 1, 1, 0, 1, 0] ct4x4 (q4x7 c e n1)) = B4x4 c (X4x5 c e n1) := by kernel_rfl
theorem s4x5 (n1 : Nt) : V4x5 (xA ii4 c e [1, 0, 1, 0, 0, 1, 1, 0, 0, 1, 1, 1, 1, 1, 0] ct4x5 (q4x5 c e n1)) = B4x5 c (X4x3 c e n1) := by kernel_rfl
def J4x3 (c : TC0) (L : Nat) (n1 : Int → List G.T → List G.T → Int → Rt) : Int → Int → List G.T → List G.T → Rt := B4x3 c n1
theorem j4x3 (n1 : Nt) : X4x3 c (cu c L) n1 = J4x3 c L (V4x1 n1) := by rw [X4x3, aY, s4x3]; rfl
def J4x5 (c : TC0) (L : Nat) (n1 : Int → List G.T → List G.T → Int → Rt) : Bool → Int → Int → Int → List G.T → List G.T → Rt := B4x5 c (J4x3 c L n1)
theorem j4x5 (n1 : Nt) : X4x5 c (cu c L) n1 = J4x5 c L (V4x1 n1) := by rw [X4x5, aY, s4x5]; simp only [j4x3]; rfl
def J4x4 (c : TC0) (L : Nat) (n1 : Int → List G.T → List G.T → Int → Rt) : Bool → Int → Int → Int → List G.T → List G.T → G.T → Rt := B4x4 c (J4x5 c L n1)
theorem j4x4 (n1 : Nt) : X4x4 c (cu c L) n1 = J4x4 c L (V4x1 n1) := by rw [X4x4, aY, s4x4]; simp only [j4x5]; rfl
def J4x2 (c : TC0) (L : Nat) (n1 : Int → List G.T → List G.T → Int → Rt) : Bool → Int → Int → Int → List G.T → List G.T → G.T → G.T → Rt := B4x2 c (J4x3 c L n1) (J4x4 c L n1)
theorem j4x2 (n1 : Nt) : X4x2 c (cu c L) n1 = J4x2 c L (V4x1 n1) := by rw [X4x2, aY, s4x2]; simp only [j4x3, j4x4]; rfl
def W4x1 (c : TC0) (L : Nat) : Nat → Int → List G.T → List G.T → Int → Rt
 | 0 => fun _ _ _ _ => none
 | n + 1 => B4x1 c (J4x2 c L (W4x1 c L n))
theorem u4x1 (n : Nat) : V4x1 (xL ii4 c L [1, 0, 1, 0, 0] aB1 (q4x2 c (cu c L)) n) = W4x1 c L n := by
 induction n with
 | zero => rfl
 | succ n ih => rw [gW, s4x1]; simp only [j4x2, ih]; rfl
theorem w4x1 : X4x1 c (cu c L) = W4x1 c L L := u4x1 c L L
def F4 (c : TC0) (L : Nat) : List G.T → Rt := B4x0 c (W4x1 c L L)
theorem e4 : V4x0 (xF ii4 c (cu c L)) = F4 c L := by rw [s4x0]; simp only [w4x1]; rfl
theorem c4 (a0 : List G.T) (L n : Nat) : CTp L (n + 1) 4 [yS 3 a0] = F4 (CTp L n) L a0 := by rw [← e4]; exact cg (x := ii4) (by kernel_rfl) (by kernel_rfl) L n _
def q5x0 (c : TC0) (e : Cu) : Kt := xK ii5
def q5x1 (c : TC0) (e : Cu) : Kt := xT ii5 c e [1, 1] (q5x0 c e)
def q5x2 (c : TC0) (e : Cu) : Kt := dD U0 0 (q5x1 c e)
def q5x3 (c : TC0) (e : Cu) (n1 : Nt) : Kt := lpK U0 aB0 n1 (q5x2 c e)
def q5x4 (c : TC0) (e : Cu) (n1 : Nt) : Kt := xT ii5 c e [1, 0, 1, 0, 0, 1, 1] (q5x3 c e n1)
def q5x5 (c : TC0) (e : Cu) (n1 : Nt) : Kt := dD U0 1 (q5x4 c e n1)
def q5x6 (c : TC0) (e : Cu) (n1 : Nt) : Kt := xT ii5 c e [1, 0, 1, 0, 0, 1, 0, 0, 1, 1] (q5x5 c e n1)
def B5x0 (c : TC0) (e1 : List G.T → Int → Rt) (a0 : List G.T) : Rt :=
 e1 a0 (0 : Int)
def V5x0 (n : Nt) : List G.T → Rt := fun x0 => n [yS 3 x0]
def B5x1 (c : TC0) (k2 : Bool → Int → List G.T → G.T → G.T → Rt) (a0 : List G.T) (a5 : Int) : Rt :=
 cnd (decide (a5 < (List.length a0 : Int))) (ob (idx a0 a5) fun v0 =>
 obL [.rc 3, .rc 3, .bool] (c 20 [yR 3 v0]) fun (r1 : G.T × G.T × Bool × Unit) =>
 cnd (!r1.2.2.1) (k2 true a5 a0 r1.1 r1.2.1) (obL [.bool] (c 21 [yR 3 r1.1, yR 3 r1.2.1]) fun (r2 : Bool × Unit) =>
 k2 r2.1 a5 a0 r1.1 r1.2.1)) (some [yI (0 : Int), yB false, yB false])
def V5x1 (n : Nt) : List G.T → Int → Rt := fun x0 x1 => n [yS 3 x0, yI x1]
def X5x1 := V5x1 (xE ii5 e [1, 0, 1, 0, 0] aB0 (q5x2 c e))
def B5x2 (c : TC0) (k3 : Int → List G.T → Rt) (a30 : Bool) (a5 : Int) (a0 : List G.T) (b106 : G.T) (b107 : G.T) : Rt :=
 cnd a30 (k3 a5 a0) (obL [.bool] (c 22 [yS 3 a0, yI a5, yR 3 b106]) fun (r0 : Bool × Unit) =>
 cnd r0.1 (some [yI a5, yB false, yB true]) (obL [.bool] (c 22 [yS 3 a0, yI a5, yR 3 b107]) fun (r1 : Bool × Unit) =>
 cnd r1.1 (some [yI a5, yB true, yB true]) (k3 a5 a0)))
def V5x2 (n : Nt) : Bool → Int → List G.T → G.T → G.T → Rt := fun x0 x1 x2 x3 x4 => n [yB x0, yI x1, yS 3 x2, yR 3 x3, yR 3 x4]
def X5x2 (n1 : Nt) := V5x2 (xD ii5 e [1, 0, 1, 0, 0, 1, 0, 0, 1, 0, 1, 0] ct5x2 (q5x6 c e n1))
def B5x3 (c : TC0) (n1 : List G.T → Int → Rt) (a5 : Int) (a0 : List G.T) : Rt :=
 n1 a0 (IntKind.i64.wrap (a5 + (1 : Int)))
def V5x3 (n : Nt) : Int → List G.T → Rt := fun x0 x1 => n [yI x0, yS 3 x1]
def X5x3 (n1 : Nt) := V5x3 (xD ii5 e [1, 0, 1, 0, 0, 1, 1, 0] ct5x3 (q5x3 c e n1))
theorem s5x0 : V5x0 (xF ii5 c e) = B5x0 c (X5x1 c e) := by kernel_rfl
theorem s5x1 (n1 : Nt) : V5x1 (xA ii5 c e [1, 0, 1, 0, 0] aB0 (lpK U0 aB0 n1 (q5x2 c e))) = B5x1 c (X5x2 c e n1) := by kernel_rfl
theorem s5x2 (n1 : Nt) : V5x2 (xA ii5 c e [1, 0, 1, 0, 0, 1, 0, 0, 1, 0, 1, 0] ct5x2 (q5x6 c e n1)) = B5x2 c (X5x3 c e n1) := by kernel_rfl
theorem s5x3 (n1 : Nt) : V5x3 (xA ii5 c e [1, 0, 1, 0, 0, 1, 1, 0] ct5x3 (q5x3 c e n1)) = B5x3 c (V5x1 n1) := by kernel_rfl
def J5x3 (c : TC0) (L : Nat) (n1 : List G.T → Int → Rt) : Int → List G.T → Rt := B5x3 c n1
theorem j5x3 (n1 : Nt) : X5x3 c (cu c L) n1 = J5x3 c L (V5x1 n1) := by rw [X5x3, aY, s5x3]; rfl
def J5x2 (c : TC0) (L : Nat) (n1 : List G.T → Int → Rt) : Bool → Int → List G.T → G.T → G.T → Rt := B5x2 c (J5x3 c L n1)
theorem j5x2 (n1 : Nt) : X5x2 c (cu c L) n1 = J5x2 c L (V5x1 n1) := by rw [X5x2, aY, s5x2]; simp only [j5x3]; rfl
def W5x1 (c : TC0) (L : Nat) : Nat → List G.T → Int → Rt
 | 0 => fun _ _ => none
 | n + 1 => B5x1 c (J5x2 c L (W5x1 c L n))
theorem u5x1 (n : Nat) : V5x1 (xL ii5 c L [1, 0, 1, 0, 0] aB0 (q5x2 c (cu c L)) n) = W5x1 c L n := by
 induction n with
 | zero => rfl
 | succ n ih => rw [gW, s5x1]; simp only [j5x2, ih]; rfl
theorem w5x1 : X5x1 c (cu c L) = W5x1 c L L := u5x1 c L L
def F5 (c : TC0) (L : Nat) : List G.T → Rt := B5x0 c (W5x1 c L L)
theorem e5 : V5x0 (xF ii5 c (cu c L)) = F5 c L := by rw [s5x0]; simp only [w5x1]; rfl
theorem c5 (a0 : List G.T) (L n : Nat) : CTp L (n + 1) 5 [yS 3 a0] = F5 (CTp L n) L a0 := by rw [← e5]; exact cg (x := ii5) (by kernel_rfl) (by kernel_rfl) L n _
def q8x0 (c : TC0) (e : Cu) : Kt := xK ii8
def q8x1 (c : TC0) (e : Cu) : Kt := xT ii8 c e [1, 1, 1, 1] (q8x0 c e)
def q8x2 (c : TC0) (e : Cu) : Kt := dD U0 0 (q8x1 c e)
def B8x0 (c : TC0) (e1 : List G.O → Int → List G.E → Rt) : Rt :=
 obL [zS 2] (c 25 []) fun (r0 : List G.O × Unit) =>
 e1 r0.1 (0 : Int) ([] : List G.E)
def V8x0 (n : Nt) : Rt := n []
def B8x1 (c : TC0) (n1 : List G.O → Int → List G.E → Rt) (a2 : List G.O) (a3 : Int) (a1 : List G.E) : Rt :=
 cnd (decide (a3 < (List.length a2 : Int))) (ob (idx a2 a3) fun v0 =>
 obL [.rc 15] (c 26 [yS 15 a1, yR 2 v0]) fun (r1 : G.E × Unit) =>
 chk (Nat.ble ((List.length a1 + List.length ([r1.1] : List G.E)) * 568) 1073741824) <|
 n1 a2 (IntKind.i64.wrap (a3 + (1 : Int))) (a1 ++ ([r1.1] : List G.E))) (obL [.rc 1] (c 27 [yT ([117, 115, 101, 114, 45, 112, 97, 99, 107, 97, 103, 101] : List UInt8)]) fun (r2 : G.Y × Unit) =>
 obL [zS 1] (c 28 []) fun (r3 : List G.Y × Unit) =>
 chk (Nat.ble ((List.length a1 + List.length ([(G.E.mk (1 : Int) r2.1 (G.A.mk ([117, 115, 101, 114] : List UInt8) r3.1) (G.M.mk (G.Y.mk ([] : List UInt8) ([] : List UInt8)) ([] : List G.Y) false (G.T.mk (0 : Int) (G.Y.mk ([] : List UInt8) ([] : List UInt8)) (G.O.mk (0 : Int) ([] : List UInt8) ([] : List UInt8) (G.Y.mk ([] : List UInt8) ([] : List UInt8)) ([] : List UInt8) ([] : List G.O)) ([] : List G.T))) ([] : List G.F) ([] : List G.T) ([] : List (List G.N)) ([] : List G.E) (G.B.mk (G.Y.mk ([] : List UInt8) ([] : List UInt8)) ([] : List G.D)) ([] : List G.U) ([] : List G.Y) ([] : List G.Y) ([] : List UInt8) (0 : Int))] : List G.E)) * 568) 1073741824) <|
 some [yS 15 (a1 ++ ([(G.E.mk (1 : Int) r2.1 (G.A.mk ([117, 115, 101, 114] : List UInt8) r3.1) (G.M.mk (G.Y.mk ([] : List UInt8) ([] : List UInt8)) ([] : List G.Y) false (G.T.mk (0 : Int) (G.Y.mk ([] : List UInt8) ([] : List UInt8)) (G.O.mk (0 : Int) ([] : List UInt8) ([] : List UInt8) (G.Y.mk ([] : List UInt8) ([] : List UInt8)) ([] : List UInt8) ([] : List G.O)) ([] : List G.T))) ([] : List G.F) ([] : List G.T) ([] : List (List G.N)) ([] : List G.E) (G.B.mk (G.Y.mk ([] : List UInt8) ([] : List UInt8)) ([] : List G.D)) ([] : List G.U) ([] : List G.Y) ([] : List G.Y) ([] : List UInt8) (0 : Int))] : List G.E))])
def V8x1 (n : Nt) : List G.O → Int → List G.E → Rt := fun x0 x1 x2 => n [yS 2 x0, yI x1, yS 15 x2]
def X8x1 := V8x1 (xE ii8 e [1, 1, 1, 0, 1, 0, 0] aEm (q8x2 c e))
theorem s8x0 : V8x0 (xF ii8 c e) = B8x0 c (X8x1 c e) := by kernel_rfl
theorem s8x1 (n1 : Nt) : V8x1 (xA ii8 c e [1, 1, 1, 0, 1, 0, 0] aEm (lpK U0 aEm n1 (q8x2 c e))) = B8x1 c (V8x1 n1) := by kernel_rfl
def aCB (c : TC0) (L : Nat) : Nat → List G.O → Int → List G.E → Rt
 | 0 => fun _ _ _ => none
 | n + 1 => B8x1 c (aCB c L n)
theorem u8x1 (n : Nat) : V8x1 (xL ii8 c L [1, 1, 1, 0, 1, 0, 0] aEm (q8x2 c (cu c L)) n) = aCB c L n := by
 induction n with
 | zero => rfl
 | succ n ih => rw [gW, s8x1]; simp only [ih]; rfl
theorem w8x1 : X8x1 c (cu c L) = aCB c L L := u8x1 c L L
def F8 (c : TC0) (L : Nat) : Rt := B8x0 c (aCB c L L)
theorem e8 : V8x0 (xF ii8 c (cu c L)) = F8 c L := by rw [s8x0]; simp only [w8x1]; rfl
theorem c8 (L n : Nat) : CTp L (n + 1) 8 [] = F8 (CTp L n) L := by rw [← e8]; exact cg (x := ii8) (by kernel_rfl) (by kernel_rfl) L n _
def aBK (c : TC0) (e : Cu) : Kt := xK wG
def q12x1 (c : TC0) (e : Cu) : Kt := xT wG c e [1, 1, 1] (aBK c e)
def q12x2 (c : TC0) (e : Cu) : Kt := xT wG c e [1, 1, 1, 0, 1, 1, 1, 0, 1, 1, 1] (aBK c e)
def q12x3 (c : TC0) (e : Cu) : Kt := dD U0 1 (q12x2 c e)
def B12x0 (c : TC0) (k1 : Bool → Int → List G.E → Int → G.Z → G.T → Rt) (a1 : List G.E) (a2 : Int) (b0 : G.Z) : Rt :=
 obL [i6, .rc 0] (c 14 [yI (12 : Int), yR 0 b0]) fun (r0 : Int × G.Z × Unit) =>
 cnd (decide (a2 < (1 : Int))) (k1 (decide ((3 : Int) < r0.1)) r0.1 a1 a2 r0.2.1 (G.T.mk (0 : Int) (G.Y.mk ([] : List UInt8) ([] : List UInt8)) (G.O.mk (0 : Int) ([] : List UInt8) ([] : List UInt8) (G.Y.mk ([] : List UInt8) ([] : List UInt8)) ([] : List UInt8) ([] : List G.O)) ([] : List G.T))) (k1 false r0.1 a1 a2 r0.2.1 (G.T.mk (0 : Int) (G.Y.mk ([] : List UInt8) ([] : List UInt8)) (G.O.mk (0 : Int) ([] : List UInt8) ([] : List UInt8) (G.Y.mk ([] : List UInt8) ([] : List UInt8)) ([] : List UInt8) ([] : List G.O)) ([] : List G.T)))
def V12x0 (n : Nt) : List G.E → Int → G.Z → Rt := fun x0 x1 x2 => n [yS 15 x0, yI x1, yR 0 x2]
def B12x1 (c : TC0) (k2 : Int → List G.E → Int → G.Z → G.T → Rt) (a22 : Bool) (a7 : Int) (a1 : List G.E) (a2 : Int) (b0 : G.Z) (b106 : G.T) : Rt :=
 cnd a22 (chk (!decide ((4 : Int) = 0)) <|
 k2 (Int.tmod a7 (4 : Int)) a1 a2 b0 b106) (k2 a7 a1 a2 b0 b106)
def V12x1 (n : Nt) : Bool → Int → List G.E → Int → G.Z → G.T → Rt := fun x0 x1 x2 x3 x4 x5 => n [yB x0, yI x1, yS 15 x2, yI x3, yR 0 x4, yR 3 x5]
def X12x1 := V12x1 (xD wG e [1, 1, 0, 1, 0] aEN (q12x1 c e))
def B12x2 (c : TC0) (k3 : List G.E → Int → G.Z → G.Y → G.T → Rt) (a7 : Int) (a1 : List G.E) (a2 : Int) (b0 : G.Z) (b106 : G.T) : Rt :=
 cnd (decide (a7 < (3 : Int))) (obL [.rc 3, .rc 0] (c 15 [yR 0 b0]) fun (r0 : G.T × G.Z × Unit) =>
 some [yR 3 r0.1, yR 0 r0.2.1]) (cnd (decide (a7 = (3 : Int))) (obL [.rc 2, .rc 0] (c 39 [yI (1 : Int), yR 0 b0]) fun (r1 : G.O × G.Z × Unit) =>
 obL [.rc 3] (c 40 [yR 2 r1.1]) fun (r2 : G.T × Unit) =>
 some [yR 3 r2.1, yR 0 r1.2.1]) (obL [(.sl .str)] (c 41 []) fun (r3 : (List (List UInt8)) × Unit) =>
 obL [(.sl .str)] (c 42 []) fun (r4 : (List (List UInt8)) × Unit) =>
 obL [i6, .rc 0] (c 14 [yI (4 : Int), yR 0 b0]) fun (r5 : Int × G.Z × Unit) =>
 cnd (decide (r5.1 < (3 : Int))) (obL [i6, .rc 0] (c 14 [yI (List.length r3.1 : Int), yR 0 r5.2.1]) fun (r6 : Int × G.Z × Unit) =>
 ob (idx r3.1 r6.1) fun v7 =>
 obL [.rc 1] (c 43 [yT v7]) fun (r8 : G.Y × Unit) =>
 k3 a1 a2 r6.2.1 r8.1 b106) (obL [i6, .rc 0] (c 14 [yI (List.length r4.1 : Int), yR 0 r5.2.1]) fun (r9 : Int × G.Z × Unit) =>
 ob (idx r4.1 r9.1) fun v10 =>
 obL [.rc 1] (c 11 [yT v10]) fun (r11 : G.Y × Unit) =>
 k3 a1 a2 r9.2.1 r11.1 b106)))
def V12x2 (n : Nt) : Int → List G.E → Int → G.Z → G.T → Rt := fun x0 x1 x2 x3 x4 => n [yI x0, yS 15 x1, yI x2, yR 0 x3, yR 3 x4]
def X12x2 := V12x2 (xD wG e [1, 1, 1, 0] aEM (aBK c e))
def B12x3 (c : TC0) (e4 : Int → List G.E → Int → Int → List G.T → G.Z → G.Y → G.T → Rt) (a1 : List G.E) (a2 : Int) (b0 : G.Z) (b108 : G.Y) (b106 : G.T) : Rt :=
 obL [i6, .bool] (c 44 [yS 15 a1, yR 1 b108]) fun (r0 : Int × Bool × Unit) =>
 e4 r0.1 a1 a2 (0 : Int) ([] : List G.T) b0 b108 b106
def V12x3 (n : Nt) : List G.E → Int → G.Z → G.Y → G.T → Rt := fun x0 x1 x2 x3 x4 => n [yS 15 x0, yI x1, yR 0 x2, yR 1 x3, yR 3 x4]
def X12x3 := V12x3 (xD wG e [1, 1, 1, 0, 1, 1, 1, 0] aEL (aBK c e))
def B12x4 (c : TC0) (n4 : Int → List G.E → Int → Int → List G.T → G.Z → G.Y → G.T → Rt) (a11 : Int) (a1 : List G.E) (a2 : Int) (a14 : Int) (a13 : List G.T) (b0 : G.Z) (b108 : G.Y) (b106 : G.T) : Rt :=
 cnd (decide (a14 < a11)) (obL [.rc 3, .rc 0] (c 12 [yS 15 a1, yI (IntKind.i64.wrap (a2 - (1 : Int))), yR 0 b0]) fun (r0 : G.T × G.Z × Unit) =>
 chk (Nat.ble ((List.length a13 + List.length ([r0.1] : List G.T)) * 176) 1073741824) <|
 n4 a11 a1 a2 (IntKind.i64.wrap (a14 + (1 : Int))) (a13 ++ ([r0.1] : List G.T)) r0.2.1 b108 b106) (obL [.rc 3] (c 38 [yR 1 b108, yS 3 a13]) fun (r1 : G.T × Unit) =>
 some [yR 3 r1.1, yR 0 b0])
def V12x4 (n : Nt) : Int → List G.E → Int → Int → List G.T → G.Z → G.Y → G.T → Rt := fun x0 x1 x2 x3 x4 x5 x6 x7 => n [yI x0, yS 15 x1, yI x2, yI x3, yS 3 x4, yR 0 x5, yR 1 x6, yR 3 x7]
def X12x4 := V12x4 (xE wG e [1, 1, 1, 0, 1, 1, 1, 0, 1, 1, 0, 1, 0, 0] vC (q12x3 c e))
theorem s12x0 : V12x0 (xF wG c e) = B12x0 c (X12x1 c e) := by kernel_rfl
theorem s12x1 : V12x1 (xA wG c e [1, 1, 0, 1, 0] aEN (q12x1 c e)) = B12x1 c (X12x2 c e) := by kernel_rfl
theorem s12x2 : V12x2 (xA wG c e [1, 1, 1, 0] aEM (aBK c e)) = B12x2 c (X12x3 c e) := by kernel_rfl
theorem s12x3 : V12x3 (xA wG c e [1, 1, 1, 0, 1, 1, 1, 0] aEL (aBK c e)) = B12x3 c (X12x4 c e) := by kernel_rfl
theorem s12x4 (n4 : Nt) : V12x4 (xA wG c e [1, 1, 1, 0, 1, 1, 1, 0, 1, 1, 0, 1, 0, 0] vC (lpK U0 vC n4 (q12x3 c e))) = B12x4 c (V12x4 n4) := by kernel_rfl
def zO (c : TC0) (L : Nat) : Nat → Int → List G.E → Int → Int → List G.T → G.Z → G.Y → G.T → Rt
 | 0 => fun _ _ _ _ _ _ _ _ => none
 | n + 1 => B12x4 c (zO c L n)
theorem u12x4 (n : Nat) : V12x4 (xL wG c L [1, 1, 1, 0, 1, 1, 1, 0, 1, 1, 0, 1, 0, 0] vC (q12x3 c (cu c L)) n) = zO c L n := by
 induction n with
 | zero => rfl
 | succ n ih => rw [gW, s12x4]; simp only [ih]; rfl
theorem w12x4 : X12x4 c (cu c L) = zO c L L := u12x4 c L L
def J12x3 (c : TC0) (L : Nat) : List G.E → Int → G.Z → G.Y → G.T → Rt := B12x3 c (zO c L L)
theorem j12x3 : X12x3 c (cu c L) = J12x3 c L := by rw [X12x3, aY, s12x3]; simp only [w12x4]; rfl
def aFu (c : TC0) (L : Nat) : Int → List G.E → Int → G.Z → G.T → Rt := B12x2 c (J12x3 c L)
theorem j12x2 : X12x2 c (cu c L) = aFu c L := by rw [X12x2, aY, s12x2]; simp only [j12x3]; rfl
def aCm (c : TC0) (L : Nat) : Bool → Int → List G.E → Int → G.Z → G.T → Rt := B12x1 c (aFu c L)
theorem j12x1 : X12x1 c (cu c L) = aCm c L := by rw [X12x1, aY, s12x1]; simp only [j12x2]; rfl
def F12 (c : TC0) (L : Nat) : List G.E → Int → G.Z → Rt := B12x0 c (aCm c L)
theorem e12 : V12x0 (xF wG c (cu c L)) = F12 c L := by rw [s12x0]; simp only [j12x1]; rfl
theorem c12 (a1 : List G.E) (a2 : Int) (b0 : G.Z) (L n : Nat) : CTp L (n + 1) 12 [yS 15 a1, yI a2, yR 0 b0] = F12 (CTp L n) L a1 a2 b0 := by rw [← e12]; exact cg (x := wG) (by kernel_rfl) (by kernel_rfl) L n _
def q13x0 (c : TC0) (e : Cu) : Kt := xK ii13
def q13x1 (c : TC0) (e : Cu) : Kt := xT ii13 c e [1, 1, 1, 1] (q13x0 c e)
def q13x2 (c : TC0) (e : Cu) : Kt := dD U0 0 (q13x1 c e)
def B13x0 (c : TC0) (e1 : Int → List G.E → Int → Int → List G.T → G.Z → Rt) (a1 : List G.E) (a2 : Int) (a3 : Int) (b0 : G.Z) : Rt :=
 obL [i6, .rc 0] (c 14 [yI a2, yR 0 b0]) fun (r0 : Int × G.Z × Unit) =>
 e1 (IntKind.i64.wrap ((1 : Int) + r0.1)) a1 a3 (0 : Int) ([] : List G.T) r0.2.1
def V13x0 (n : Nt) : List G.E → Int → Int → G.Z → Rt := fun x0 x1 x2 x3 => n [yS 15 x0, yI x1, yI x2, yR 0 x3]
def B13x1 (c : TC0) (n1 : Int → List G.E → Int → Int → List G.T → G.Z → Rt) (a10 : Int) (a1 : List G.E) (a3 : Int) (a11 : Int) (a9 : List G.T) (b0 : G.Z) : Rt :=
 cnd (decide (a11 < a10)) (obL [.rc 3, .rc 0] (c 45 [yS 15 a1, yI a3, yR 0 b0]) fun (r0 : G.T × G.Z × Unit) =>
 obL [zS 3] (c 16 [yS 3 a9, yS 3 ([r0.1] : List G.T)]) fun (r1 : List G.T × Unit) =>
 n1 a10 a1 a3 (IntKind.i64.wrap (a11 + (1 : Int))) r1.1 r0.2.1) (some [yS 3 a9, yR 0 b0])
def V13x1 (n : Nt) : Int → List G.E → Int → Int → List G.T → G.Z → Rt := fun x0 x1 x2 x3 x4 x5 => n [yI x0, yS 15 x1, yI x2, yI x3, yS 3 x4, yR 0 x5]
def X13x1 := V13x1 (xE ii13 e [1, 1, 1, 0, 1, 0, 0] vB (q13x2 c e))
theorem s13x0 : V13x0 (xF ii13 c e) = B13x0 c (X13x1 c e) := by kernel_rfl
theorem s13x1 (n1 : Nt) : V13x1 (xA ii13 c e [1, 1, 1, 0, 1, 0, 0] vB (lpK U0 vB n1 (q13x2 c e))) = B13x1 c (V13x1 n1) := by kernel_rfl
def zN (c : TC0) (L : Nat) : Nat → Int → List G.E → Int → Int → List G.T → G.Z → Rt
 | 0 => fun _ _ _ _ _ _ => none
 | n + 1 => B13x1 c (zN c L n)
theorem u13x1 (n : Nat) : V13x1 (xL ii13 c L [1, 1, 1, 0, 1, 0, 0] vB (q13x2 c (cu c L)) n) = zN c L n := by
 induction n with
 | zero => rfl
 | succ n ih => rw [gW, s13x1]; simp only [ih]; rfl
theorem w13x1 : X13x1 c (cu c L) = zN c L L := u13x1 c L L
def F13 (c : TC0) (L : Nat) : List G.E → Int → Int → G.Z → Rt := B13x0 c (zN c L L)
theorem e13 : V13x0 (xF ii13 c (cu c L)) = F13 c L := by rw [s13x0]; simp only [w13x1]; rfl
theorem c13 (a1 : List G.E) (a2 : Int) (a3 : Int) (b0 : G.Z) (L n : Nat) : CTp L (n + 1) 13 [yS 15 a1, yI a2, yI a3, yR 0 b0] = F13 (CTp L n) L a1 a2 a3 b0 := by rw [← e13]; exact cg (x := ii13) (by kernel_rfl) (by kernel_rfl) L n _
def q14x0 (c : TC0) (e : Cu) : Kt := xK ii14
def q14x1 (c : TC0) (e : Cu) : Kt := xT ii14 c e [1, 1] (q14x0 c e)
def B14x0 (c : TC0) (k1 : Bool → Int → G.Z → Rt) (a1 : Int) (b0 : G.Z) : Rt :=
 cnd (decide ((List.length b0.b : Int) ≤ b0.pos)) (k1 true a1 b0) (k1 (decide (a1 < (1 : Int))) a1 b0)
def V14x0 (n : Nt) : Int → G.Z → Rt := fun x0 x1 => n [yI x0, yR 0 x1]
def B14x1 (c : TC0) (a18 : Bool) (a1 : Int) (b0 : G.Z) : Rt :=
 cnd a18 (some [yI (0 : Int), yR 0 b0]) (ob (idx b0.b (IntKind.i64.wrap ((IntKind.i64.wrap (b0.pos + (1 : Int))) - (1 : Int)))) fun v0 =>
 chk (!decide (a1 = 0)) <|
 some [yI (Int.tmod (IntKind.i64.wrap v0) a1), yR 0 (G.Z.mk b0.b (IntKind.i64.wrap (b0.pos + (1 : Int))))])
def V14x1 (n : Nt) : Bool → Int → G.Z → Rt := fun x0 x1 x2 => n [yB x0, yI x1, yR 0 x2]
def X14x1 := V14x1 (xD ii14 e [1, 0, 1, 0] aEK (q14x1 c e))
theorem s14x0 : V14x0 (xF ii14 c e) = B14x0 c (X14x1 c e) := by kernel_rfl
theorem s14x1 : V14x1 (xA ii14 c e [1, 0, 1, 0] aEK (q14x1 c e)) = B14x1 c := by kernel_rfl
def J14x1 (c : TC0) (L : Nat) : Bool → Int → G.Z → Rt := B14x1 c
theorem j14x1 : X14x1 c (cu c L) = J14x1 c L := by rw [X14x1, aY, s14x1]; rfl
def F14 (c : TC0) (L : Nat) : Int → G.Z → Rt := B14x0 c (J14x1 c L)
theorem e14 : V14x0 (xF ii14 c (cu c L)) = F14 c L := by rw [s14x0]; simp only [j14x1]; rfl
theorem c14 (a1 : Int) (b0 : G.Z) (L n : Nat) : CTp L (n + 1) 14 [yI a1, yR 0 b0] = F14 (CTp L n) L a1 b0 := by rw [← e14]; exact cg (x := ii14) (by kernel_rfl) (by kernel_rfl) L n _
end
end Go.TV
namespace Go.TV
open Go.AI Go.PI Go.Proofs
structure bF (s : G.Z) : Prop where
 b : ∀ x ∈ s.b, 0 ≤ x ∧ x < 256
 p0 : 0 ≤ s.pos
 p1 : s.pos ≤ (s.b.length : Int)
 l : s.b.length ≤ 80
def NxR (x : Rt) (a : Int) : Prop := ∃ (r : Int) (s : G.Z), x = some [yI r, yR 0 s] ∧ 0 ≤ r ∧ r < a ∧ bF s
theorem fE {β : Type} {a : Int} {b : G.Z} {K : Int × G.Z × Unit → Option β} : obL (D := U0.D) [.int .i64, .rc 0] (some [yI a, yR 0 b]) K = K (a, b, ()) := rfl
theorem Nx_ok {s : G.Z} {a : Int} {L n : Nat} (h : bF s) (h1 : 1 ≤ a) : NxR (CTp L (n + 1) 14 [yI a, yR 0 s]) a := by
 rw [c14, F14, B14x0]
 cases e1 : decide ((s.b.length : Int) ≤ s.pos) with
 | true => exact ⟨0, s, rfl, Int.le_refl _, by omega, h⟩
 | false =>
  have e2 : decide (a < (1 : Int)) = false := by simp; omega
  simp only [dfN] at e1
  rw [aH, e2, J14x1, B14x1, aH]
  obtain ⟨k, hk⟩ : ∃ k : Nat, s.pos = (k : Int) := ⟨s.pos.toNat, by have := h.p0; omega⟩
  have hl := h.l
  have hkl : k < s.b.length := by omega
  have e3 : s.b[k]? = some s.b[k] := geG hkl
  obtain ⟨q1, q2⟩ := h.b s.b[k] (List.getElem_mem hkl)
  generalize s.b[k] = v at e3 q1 q2
  have e4 : IntKind.i64.wrap (((k + 1 : Nat) : Int) - 1) = (k : Int) := by
   rw [show ((k + 1 : Nat) : Int) - 1 = (k : Int) by omega]; exact wrapn (by omega)
  obtain ⟨m, rfl⟩ : ∃ m : Nat, v = (m : Int) := ⟨v.toNat, by omega⟩
  rw [hk, dF (by omega), e4, aL, e3, dE, show decide (a = 0) = false by simp; omega]
  simp only [Bool.not_false, yO]
  rw [wrapn (by omega)]
  exact ⟨_, _, rfl, Int.tmod_nonneg _ q1, Int.tmod_lt_of_pos _ (by omega), ⟨h.b, by show (0 : Int) ≤ ((k + 1 : Nat) : Int); omega, by show ((k + 1 : Nat) : Int) ≤ (s.b.length : Int); omega, h.l⟩⟩
def fns (e : G.E) : List G.F := bif decide (e.kind = 3) || decide (e.kind = 5) || decide (e.kind = 6) || decide (e.kind = 7) then e.functions else []
theorem Fn_ok (e : G.E) (L n : Nat) : CTp L (n + 1) 88 [yR 15 e] = some [yS 4 (fns e)] := by
 rw [c88]
 simp only [F88, B88x0, J88x1, B88x1, fns]
 generalize decide (e.kind = 3) = a, decide (e.kind = 5) = b, decide (e.kind = 6) = d, decide (e.kind = 7) = f
 cases a <;> cases b <;> cases d <;> cases f <;> rfl
def PlR (E : List G.E) (x : Rt) : Prop := ∃ (i k : Int) (b : Bool), x = some [yI i, yI k, yB b] ∧ (b = true → ∃ (i' k' : Nat) (e : G.E), i = i' ∧ k = k' ∧ E[i']? = some e ∧ k' < (fns e).length)
theorem obL_fl {β : Type} {a : List G.F} {K : List G.F × Unit → Option β} : obL (D := U0.D) [.sl (.rc 4)] (some [yS 4 a]) K = K (a, ()) := rfl
theorem Pl_in {E : List G.E} {f : G.Y} {c : TC0} {L : Nat} {n1 : List G.E → Int → G.Y → Rt} {i : Nat} {e : G.E} (he : E[i]? = some e) (hb : (fns e).length < 1000000000) (hn : PlR E (n1 E (IntKind.i64.wrap ((i : Int) + 1)) f)) :
    ∀ (r : List G.F) (k m : Nat), (fns e).drop k = r → r.length < m → PlR E (yZ c L n1 m (fns e) (k : Int) (i : Int) E f) := by
 intro r
 induction r with
 | nil =>
  intro k m h1 h2
  obtain ⟨m, rfl⟩ : ∃ m', m = m' + 1 := ⟨m - 1, by simp at h2; omega⟩
  have e1 := aW h1
  have e3 : decide ((k : Int) < ((fns e).length : Int)) = false := by simp; omega
  rw [yZ, B87x2, e3, aH]; exact hn
 | cons x r ih =>
  intro k m h1 h2
  obtain ⟨m, rfl⟩ : ∃ m', m = m' + 1 := ⟨m - 1, by simp at h2; omega⟩
  obtain ⟨a1, a2, a3⟩ := aV h1
  have e3 : decide ((k : Int) < ((fns e).length : Int)) = true := by simp; omega
  rw [yZ, B87x2, e3, aI, aL, a1, dE, dF (by omega)]
  cases decide (x.name = f) with
  | true => exact ⟨_, _, true, rfl, fun _ => ⟨i, k, e, rfl, rfl, he, a2⟩⟩
  | false => exact ih (k + 1) m a3 (by simp at h2; omega)
theorem Pl_out {E : List G.E} {f : G.Y} {c : TC0} {L : Nat} (hb : E.length < 1000000) (hf : ∀ e ∈ E, (fns e).length < L ∧ (fns e).length < 1000000) (hc : ∀ e : G.E, c 88 [yR 15 e] = some [yS 4 (fns e)]) :
    ∀ (r : List G.E) (k m : Nat), E.drop k = r → r.length < m → PlR E (zA c L m E (k : Int) f) := by
 intro r
 induction r with
 | nil =>
  intro k m h1 h2
  obtain ⟨m, rfl⟩ : ∃ m', m = m' + 1 := ⟨m - 1, by simp at h2; omega⟩
  have e1 := aW h1
  have e3 : decide ((k : Int) < (E.length : Int)) = false := by simp; omega
  rw [zA, B87x1, e3, aH]
  exact ⟨0, 0, false, rfl, fun h => by cases h⟩
 | cons x r ih =>
  intro k m h1 h2
  obtain ⟨m, rfl⟩ : ∃ m', m = m' + 1 := ⟨m - 1, by simp at h2; omega⟩
  obtain ⟨a1, a2, a3⟩ := aV h1
  have e3 : decide ((k : Int) < (E.length : Int)) = true := by simp; omega
  rw [zA, B87x1, e3, aI, aL, a1, dE, hc, obL_fl]
  obtain ⟨g1, g2⟩ := hf x (List.mem_of_getElem? a1)
  refine Pl_in a1 (by omega) ?_ (fns x) 0 L rfl g1
  rw [dF (by omega)]
  exact ih (k + 1) m a3 (by simp at h2; omega)
structure WOK (E : List G.E) : Prop where
 l : E.length ≤ 1000
 f : ∀ e ∈ E, e.functions.length ≤ 1000
 p : ∀ e ∈ E, ∀ f ∈ e.functions, f.params.length ≤ 3
theorem fns_mem {e : G.E} {f : G.F} (h : f ∈ fns e) : f ∈ e.functions := by
 unfold fns at h
 revert h
 cases decide (e.kind = 3) || decide (e.kind = 5) || decide (e.kind = 6) || decide (e.kind = 7) with
 | true => exact id
 | false => intro h; cases h
theorem fns_len (e : G.E) : (fns e).length ≤ e.functions.length := by
 unfold fns
 cases decide (e.kind = 3) || decide (e.kind = 5) || decide (e.kind = 6) || decide (e.kind = 7) with
 | true => exact nlR _
 | false => exact Nat.zero_le _
theorem obL_pl {β : Type} {a b : Int} {d : Bool} {K : Int × Int × Bool × Unit → Option β} : obL (D := U0.D) [.int .i64, .int .i64, .bool] (some [yI a, yI b, yB d]) K = K (a, b, d, ()) := rfl
theorem obL_fb {β : Type} {a : G.F} {d : Bool} {K : G.F × Bool × Unit → Option β} : obL (D := U0.D) [.rc 4, .bool] (some [yR 4 a, yB d]) K = K (a, d, ()) := rfl
theorem Fu_ok {E : List G.E} (hE : WOK E) (f : G.Y) {L n : Nat} (hL : 2000 ≤ L) : ∃ (g : G.F) (b : Bool), CTp L (n + 3) 72 [yS 15 E, yR 1 f] = some [yR 4 g, yB b] ∧ g.params.length ≤ 3 := by
 have h94 : PlR E (CTp L (n + 2) 87 [yS 15 E, yR 1 f]) := by
  show PlR E (CTp L (n + 1 + 1) 87 _)
  rw [c87, F87, B87x0]
  have := hE.l
  exact Pl_out (by omega) (fun e he => by have := hE.f e he; have := fns_len e; omega) (fun e => Fn_ok e L n) E 0 L rfl (by omega)
 obtain ⟨i, k, b, h94, hb⟩ := h94
 show ∃ (g : G.F) (b : Bool), CTp L (n + 2 + 1) 72 _ = _ ∧ _
 rw [c72, F72, B72x0, h94, obL_pl]
 cases b with
 | false => exact ⟨_, _, rfl, Nat.zero_le _⟩
 | true =>
  obtain ⟨i', k', e, rfl, rfl, h1, h2⟩ := hb rfl
  have h3 : (fns e)[k']? = some (fns e)[k'] := geG h2
  simp only [bnT, aH]
  rw [aL, h1, dE, Fn_ok, obL_fl]
  simp only [aL, h3, dE]
  exact ⟨_, _, rfl, hE.p e (List.mem_of_getElem? h1) _ (fns_mem (List.getElem_mem h2))⟩
theorem rows_ar : (rowsL.all fun r => decide (0 ≤ r.arity) && decide (r.arity ≤ 3)) = true := by kernel_rfl
theorem vI : ∀ (l : List G.R), (l.all fun r => decide (0 ≤ r.arity) && decide (r.arity ≤ 3)) = true → ∀ s k, oK s l = some k → 0 ≤ k ∧ k ≤ 3
 | [], _, s, k, h => by cases h
 | r :: l, h, s, k, hk => by
  simp only [alC, bjE, djE] at h
  simp only [oK] at hk
  split at hk
  ·simp only [ojE] at hk; subst hk; exact h.1
  ·exact vI l h.2 s k hk
def ArR (x : Rt) : Prop := ∃ (k : Nat) (b : Bool), x = some [yI (k : Int), yB b] ∧ k ≤ 3
theorem Ar_ok {E : List G.E} (hE : WOK E) (f : G.Y) {L n : Nat} (hL : 2000 ≤ L) : ArR (CTp L (n + 4) 44 [yS 15 E, yR 1 f]) := by
 have h55 := ArR_ok f L (n + 1) (by omega)
 show ArR (CTp L (n + 3 + 1) 44 _)
 rw [c44, F44, B44x0]
 show ArR (obL (D := U0.D) [.int .i64, .bool] (CTp L (n + 1 + 2) 71 [yR 1 f]) _)
 rw [h55]
 cases ha : arity f with
 | some k =>
  obtain ⟨g1, g2⟩ : 0 ≤ k ∧ k ≤ 3 := by
   unfold arity at ha
   split at ha
   ·exact vI rowsL rows_ar _ _ ha
   ·cases ha
  obtain ⟨m, rfl⟩ : ∃ m : Nat, k = (m : Int) := ⟨k.toNat, by omega⟩
  exact ⟨m, true, rfl, by omega⟩
 | none =>
  simp only [oI]
  rw [aAF, aH]
  obtain ⟨g, b, h1, h2⟩ := Fu_ok (n := n) hE f hL
  rw [h1, obL_fb]
  cases b with
  | false => exact ⟨0, false, rfl, by omega⟩
  | true => exact ⟨g.params.length, true, rfl, h2⟩
end Go.TV
namespace Go.TV
open Go.AI Go.PI Go.Proofs
theorem cst_some {t u : Ty} {x : Den U0.D t} {y : Den U0.D u} (h : cst t u x = some y) : (⟨t, x⟩ : TV U0.D) = ⟨u, y⟩ := by
 unfold cst at h
 split at h
 ·rename_i e _; subst e; simp only [ojE] at h; subst h; rfl
 ·cases h
theorem aBa : ∀ {ts : List Ty} {d : TVs} {r : DenL U0.D ts}, cR ts d = some r → d = tvL ts r
 | [], [], _, _ => rfl
 | [], _ :: _, _, h => by cases h
 | _ :: _, [], _, h => by cases h
 | t :: ts, v :: d, r, h => by
  simp only [cR] at h
  split at h
  ·rename_i x q h1 h2
   simp only [ojE] at h
   subst h
   show v :: d = ⟨t, x⟩ :: tvL ts q
   rw [← aBa h2, ← cst_some h1]
  ·cases h
def hx (ts : List Ty) (d : TVs) (K : DenL U0.D ts → Rt) (z : Rt) : Rt := match cR ts d with | some r => K r | none => z
theorem eC {ts : List Ty} {d : TVs} {K : DenL U0.D ts → Rt} {z : Rt} (h : ∀ r, d = tvL ts r → K r = z) : hx ts d K z = z := by
 unfold hx
 split
 ·rename_i r e; exact h r (aBa e)
 ·rfl
def Hk (i : Nat) (h : TC0 → Nat → TVs → Rt → Rt) (L m : Nat) (d : TVs) : Prop := h (CTp L m) L d (CTp L (m + 1) i d) = CTp L (m + 1) i d
theorem evq {b : Bool} {x y z : Rt} (h1 : b = true → x = z) (h2 : y = z) : (bif b then x else y) = z := by cases b; exact h2; exact h1 rfl
theorem evc {b : Bool} {x y z : Rt} (h1 : x = z) (h2 : y = z) : (bif b then x else y) = z := by cases b; exact h2; exact h1
noncomputable def hG (i : Nat) (c : TC0) (L : Nat) (d : TVs) (z : Rt) : Rt :=
 match mZ insL i with
 | some x => bif Nat.beq x.sig.f orcI.n || Nat.beq x.sig.f orcI.m then z else xF x c (cu c L) d
 | none => z
theorem jB (i L m : Nat) (d : TVs) : hG i (CTp L m) L d (CTp L (m + 1) i d) = CTp L (m + 1) i d := by
 unfold hG
 split
 ·rename_i x hx
  cases hb : Nat.beq x.sig.f orcI.n || Nat.beq x.sig.f orcI.m with
  | true => rfl
  | false => exact (cg hx hb L m d).symm
 ·rfl
end Go.TV
namespace Go.TV
open Go.AI Go.PI Go.Proofs
set_option maxRecDepth 20000
def h2 (c : TC0) (L : Nat) (d : TVs) (z : Rt) : Rt := hx [(.int .u32)] d (fun r => F2 c L r.1) z
theorem g2 (L m : Nat) (d : TVs) : Hk 2 h2 L m d := eC fun r e => e ▸ (c2 r.1 L m).symm
def h8 (c : TC0) (L : Nat) (d : TVs) (z : Rt) : Rt := hx [] d (fun _ => F8 c L) z
theorem g8 (L m : Nat) (d : TVs) : Hk 8 h8 L m d := eC fun r e => e ▸ (c8 L m).symm
def h25 (c : TC0) (L : Nat) (d : TVs) (z : Rt) : Rt := hx [] d (fun _ => F25 c L) z
theorem g25 (L m : Nat) (d : TVs) : Hk 25 h25 L m d := eC fun r e => e ▸ (c25 L m).symm
def h27 (c : TC0) (L : Nat) (d : TVs) (z : Rt) : Rt := hx [.str] d (fun r => F27 c L r.1) z
theorem g27 (L m : Nat) (d : TVs) : Hk 27 h27 L m d := eC fun r e => e ▸ (c27 r.1 L m).symm
def h41 (c : TC0) (L : Nat) (d : TVs) (z : Rt) : Rt := hx [] d (fun _ => F41 c L) z
theorem g41 (L m : Nat) (d : TVs) : Hk 41 h41 L m d := eC fun r e => e ▸ (c41 L m).symm
def h42 (c : TC0) (L : Nat) (d : TVs) (z : Rt) : Rt := hx [] d (fun _ => F42 c L) z
theorem g42 (L m : Nat) (d : TVs) : Hk 42 h42 L m d := eC fun r e => e ▸ (c42 L m).symm
def h44 (c : TC0) (L : Nat) (d : TVs) (z : Rt) : Rt := hx [zS 15, .rc 1] d (fun r => F44 c L r.1 r.2.1) z
theorem g44 (L m : Nat) (d : TVs) : Hk 44 h44 L m d := eC fun r e => e ▸ (c44 r.1 r.2.1 L m).symm
def h52 (c : TC0) (L : Nat) (d : TVs) (z : Rt) : Rt := hx [.rc 2, .rc 2] d (fun r => F52 c L r.1 r.2.1) z
theorem g52 (L m : Nat) (d : TVs) : Hk 52 h52 L m d := eC fun r e => e ▸ (c52 r.1 r.2.1 L m).symm
def h55 (c : TC0) (L : Nat) (d : TVs) (z : Rt) : Rt := hx [] d (fun _ => F55 c L) z
theorem g55 (L m : Nat) (d : TVs) : Hk 55 h55 L m d := eC fun r e => e ▸ (c55 L m).symm
def h56 (c : TC0) (L : Nat) (d : TVs) (z : Rt) : Rt := hx [] d (fun _ => F56 c L) z
theorem g56 (L m : Nat) (d : TVs) : Hk 56 h56 L m d := eC fun r e => e ▸ (c56 L m).symm
def h57 (c : TC0) (L : Nat) (d : TVs) (z : Rt) : Rt := hx [zS 5, .str, .str] d (fun r => F57 c L r.1 r.2.1 r.2.2.1) z
theorem g57 (L m : Nat) (d : TVs) : Hk 57 h57 L m d := eC fun r e => e ▸ (c57 r.1 r.2.1 r.2.2.1 L m).symm
def h71 (c : TC0) (L : Nat) (d : TVs) (z : Rt) : Rt := hx [.rc 1] d (fun r => F71 c L r.1) z
theorem g71 (L m : Nat) (d : TVs) : Hk 71 h71 L m d := eC fun r e => e ▸ (c71 r.1 L m).symm
def h72 (c : TC0) (L : Nat) (d : TVs) (z : Rt) : Rt := hx [zS 15, .rc 1] d (fun r => F72 c L r.1 r.2.1) z
theorem g72 (L m : Nat) (d : TVs) : Hk 72 h72 L m d := eC fun r e => e ▸ (c72 r.1 r.2.1 L m).symm
def h74 (c : TC0) (L : Nat) (d : TVs) (z : Rt) : Rt := hx [.rc 3] d (fun r => F74 c L r.1) z
theorem g74 (L m : Nat) (d : TVs) : Hk 74 h74 L m d := eC fun r e => e ▸ (c74 r.1 L m).symm
def h77 (c : TC0) (L : Nat) (d : TVs) (z : Rt) : Rt := hx [i6, .rc 19] d (fun r => F77 c L r.1 r.2.1) z
theorem g77 (L m : Nat) (d : TVs) : Hk 77 h77 L m d := eC fun r e => e ▸ (c77 r.1 r.2.1 L m).symm
def h83 (c : TC0) (L : Nat) (d : TVs) (z : Rt) : Rt := hx [] d (fun _ => F83 c L) z
theorem g83 (L m : Nat) (d : TVs) : Hk 83 h83 L m d := eC fun r e => e ▸ (c83 L m).symm
def h87 (c : TC0) (L : Nat) (d : TVs) (z : Rt) : Rt := hx [zS 15, .rc 1] d (fun r => F87 c L r.1 r.2.1) z
theorem g87 (L m : Nat) (d : TVs) : Hk 87 h87 L m d := eC fun r e => e ▸ (c87 r.1 r.2.1 L m).symm
def h88 (c : TC0) (L : Nat) (d : TVs) (z : Rt) : Rt := hx [.rc 15] d (fun r => F88 c L r.1) z
theorem g88 (L m : Nat) (d : TVs) : Hk 88 h88 L m d := eC fun r e => e ▸ (c88 r.1 L m).symm
def h92 (c : TC0) (L : Nat) (d : TVs) (z : Rt) : Rt := hx [i6, .rc 19] d (fun r => F92 c L r.1 r.2.1) z
theorem g92 (L m : Nat) (d : TVs) : Hk 92 h92 L m d := eC fun r e => e ▸ (c92 r.1 r.2.1 L m).symm
def h93 (c : TC0) (L : Nat) (d : TVs) (z : Rt) : Rt := hx [zS 5, .str, .str] d (fun r => F93 c L r.1 r.2.1 r.2.2.1) z
theorem g93 (L m : Nat) (d : TVs) : Hk 93 h93 L m d := eC fun r e => e ▸ (c93 r.1 r.2.1 r.2.2.1 L m).symm
def h94 (c : TC0) (L : Nat) (d : TVs) (z : Rt) : Rt := hx [.rc 2, i6] d (fun r => F94 c L r.1 r.2.1) z
theorem g94 (L m : Nat) (d : TVs) : Hk 94 h94 L m d := eC fun r e => e ▸ (c94 r.1 r.2.1 L m).symm
def h100 (c : TC0) (L : Nat) (d : TVs) (z : Rt) : Rt := hx [zS 15, .rc 1] d (fun r => F100 c L r.1 r.2.1) z
theorem g100 (L m : Nat) (d : TVs) : Hk 100 h100 L m d := eC fun r e => e ▸ (c100 r.1 r.2.1 L m).symm
def h115 (c : TC0) (L : Nat) (d : TVs) (z : Rt) : Rt := hx [.rc 18, .bool] d (fun r => F115 c L r.1 r.2.1) z
theorem g115 (L m : Nat) (d : TVs) : Hk 115 h115 L m d := eC fun r e => e ▸ (c115 r.1 r.2.1 L m).symm
def h119 (c : TC0) (L : Nat) (d : TVs) (z : Rt) : Rt := hx [.str] d (fun r => F119 c L r.1) z
theorem g119 (L m : Nat) (d : TVs) : Hk 119 h119 L m d := eC fun r e => e ▸ (c119 r.1 L m).symm
def h122 (c : TC0) (L : Nat) (d : TVs) (z : Rt) : Rt := hx [zS 5, .str] d (fun r => F122 c L r.1 r.2.1) z
theorem g122 (L m : Nat) (d : TVs) : Hk 122 h122 L m d := eC fun r e => e ▸ (c122 r.1 r.2.1 L m).symm
def h144 (c : TC0) (L : Nat) (d : TVs) (z : Rt) : Rt := hx [.str] d (fun r => F144 c L r.1) z
theorem g144 (L m : Nat) (d : TVs) : Hk 144 h144 L m d := eC fun r e => e ▸ (c144 r.1 L m).symm
noncomputable def hAll (i : Nat) (c : TC0) (L : Nat) (d : TVs) (z : Rt) : Rt := (bif Nat.beq i 74 then h74 c L d z else bif Nat.blt i 74 then (bif Nat.beq i 44 then h44 c L d z else bif Nat.blt i 44 then (bif Nat.beq i 27 then h27 c L d z else bif Nat.blt i 27 then (bif Nat.beq i 8 then h8 c L d z else bif Nat.blt i 8 then (bif Nat.beq i 2 then h2 c L d z else hG i c L d z) else (bif Nat.beq i 25 then h25 c L d z else hG i c L d z)) else (bif Nat.beq i 42 then h42 c L d z else bif Nat.blt i 42 then (bif Nat.beq i 41 then h41 c L d z else hG i c L d z) else hG i c L d z)) else (bif Nat.beq i 57 then h57 c L d z else bif Nat.blt i 57 then (bif Nat.beq i 55 then h55 c L d z else bif Nat.blt i 55 then (bif Nat.beq i 52 then h52 c L d z else hG i c L d z) else (bif Nat.beq i 56 then h56 c L d z else hG i c L d z)) else (bif Nat.beq i 72 then h72 c L d z else bif Nat.blt i 72 then (bif Nat.beq i 71 then h71 c L d z else hG i c L d z) else hG i c L d z))) else (bif Nat.beq i 94 then h94 c L d z else bif Nat.blt i 94 then (bif Nat.beq i 88 then h88 c L d z else bif Nat.blt i 88 then (bif Nat.beq i 83 then h83 c L d z else bif Nat.blt i 83 then (bif Nat.beq i 77 then h77 c L d z else hG i c L d z) else (bif Nat.beq i 87 then h87 c L d z else hG i c L d z)) else (bif Nat.beq i 93 then h93 c L d z else bif Nat.blt i 93 then (bif Nat.beq i 92 then h92 c L d z else hG i c L d z) else hG i c L d z)) else (bif Nat.beq i 119 then h119 c L d z else bif Nat.blt i 119 then (bif Nat.beq i 115 then h115 c L d z else bif Nat.blt i 115 then (bif Nat.beq i 100 then h100 c L d z else hG i c L d z) else hG i c L d z) else (bif Nat.beq i 144 then h144 c L d z else bif Nat.blt i 144 then (bif Nat.beq i 122 then h122 c L d z else hG i c L d z) else hG i c L d z))))
theorem hAll_ok (i L m : Nat) (d : TVs) : hAll i (CTp L m) L d (CTp L (m + 1) i d) = CTp L (m + 1) i d := (evq (fun e => (nqE e).symm ▸ g74 L m d) (evc (evq (fun e => (nqE e).symm ▸ g44 L m d) (evc (evq (fun e => (nqE e).symm ▸ g27 L m d) (evc (evq (fun e => (nqE e).symm ▸ g8 L m d) (evc (evq (fun e => (nqE e).symm ▸ g2 L m d) (jB i L m d)) (evq (fun e => (nqE e).symm ▸ g25 L m d) (jB i L m d)))) (evq (fun e => (nqE e).symm ▸ g42 L m d) (evc (evq (fun e => (nqE e).symm ▸ g41 L m d) (jB i L m d)) (jB i L m d))))) (evq (fun e => (nqE e).symm ▸ g57 L m d) (evc (evq (fun e => (nqE e).symm ▸ g55 L m d) (evc (evq (fun e => (nqE e).symm ▸ g52 L m d) (jB i L m d)) (evq (fun e => (nqE e).symm ▸ g56 L m d) (jB i L m d)))) (evq (fun e => (nqE e).symm ▸ g72 L m d) (evc (evq (fun e => (nqE e).symm ▸ g71 L m d) (jB i L m d)) (jB i L m d))))))) (evq (fun e => (nqE e).symm ▸ g94 L m d) (evc (evq (fun e => (nqE e).symm ▸ g88 L m d) (evc (evq (fun e => (nqE e).symm ▸ g83 L m d) (evc (evq (fun e => (nqE e).symm ▸ g77 L m d) (jB i L m d)) (evq (fun e => (nqE e).symm ▸ g87 L m d) (jB i L m d)))) (evq (fun e => (nqE e).symm ▸ g93 L m d) (evc (evq (fun e => (nqE e).symm ▸ g92 L m d) (jB i L m d)) (jB i L m d))))) (evq (fun e => (nqE e).symm ▸ g119 L m d) (evc (evq (fun e => (nqE e).symm ▸ g115 L m d) (evc (evq (fun e => (nqE e).symm ▸ g100 L m d) (jB i L m d)) (jB i L m d))) (evq (fun e => (nqE e).symm ▸ g144 L m d) (evc (evq (fun e => (nqE e).symm ▸ g122 L m d) (jB i L m d)) (jB i L m d)))))))))
end Go.TV
namespace Go.TV
open Go.AI Go.PI Go.Proofs
noncomputable def evB (K : TC0) (up : Nat → TC0) (L : Nat) : Nat → TC0
 | 0 => up 0
 | n + 1 => fun i d => match K i d with | some r => some r | none => hAll i (evB K up L n) L d (up (n + 1) i d)
noncomputable def upT (L N : Nat) : Nat → TC0 := fun n => CTp L (N + n)
theorem aA6 {K : TC0} {L N : Nat} (hK : ∀ n i d r, K i d = some r → CTp L (N + n + 1) i d = some r) : ∀ n, evB K (upT L N) L n = CTp L (N + n)
 | 0 => rfl
 | n + 1 => by
  funext i d
  show (match K i d with | some r => some r | none => hAll i (evB K (upT L N) L n) L d (CTp L (N + n + 1) i d)) = CTp L (N + n + 1) i d
  rw [aA6 hK n]
  split
  ·rename_i r e; exact (hK n i d r e).symm
  ·exact hAll_ok i L (N + n) d
end Go.TV
namespace Go.TV
open Go.AI Go.PI Go.Proofs
set_option maxRecDepth 20000
theorem call_o {P : Program} {T : TP U0.D} {l : List (Nat × Ins)} {i : Nat} {x : Ins} (hx : mZ l i = some x) (hs : T.sig i = some x.sig) (hb : (okS T.orc x.sig && Nat.ble x.sig.bx.length 100 && okBx x.sig.bx.length x.sig.bx) = true) (L n : Nat) (d : TVs) {y : OV} (ho : orT U0 T.orc x.sig d = some y) :
    vF U0 T (tabL P l) L (n + 1) i d = some [ovT U0 y] := by
 have hg : tabL P l i = some (eM x.sk (lA P x.sig.f), aBG P x.sig.f) := by simp only [tabL, hx]
 simp only [vF, hs, hg, hb, cdt, ho]
def Kf : TC0 := fun i d => bif Nat.beq i 143 then (match orT U0 orcI ii143.sig d with | some x => some [ovT U0 x] | none => none) else none
noncomputable def cF (L M k : Nat) : TC0 := evB Kf (upT (L + 7000) M) (L + 7000) k
theorem cF_ok (L M k : Nat) : cF L M k = CTp (L + 7000) (M + k) := aA6 (fun n i d r h => by
 unfold Kf at h
 cases hb : Nat.beq i 143 with
 | false => rw [hb] at h; cases h
 | true =>
  rw [hb, cdt] at h
  split at h
  ·rename_i x hx
   simp only [ojE] at h
   subst h
   rw [nqE hb]
   exact call_o (x := ii143) (by kernel_rfl) (by kernel_rfl) (by kernel_rfl) _ _ d hx
  ·cases h) k
def userS : List UInt8 := [117, 115, 101, 114]
def zrO : G.O := ⟨0, [], [], ⟨[], []⟩, [], []⟩
def tV (w : List UInt8) : G.T := ⟨1, ⟨userS, w⟩, zrO, []⟩
def tA (f : G.Y) (l : List G.T) : G.T := ⟨3, f, zrO, l⟩
def tC (o : G.O) : G.T := ⟨2, ⟨[], []⟩, o, []⟩
def niO : G.O := ⟨2, [], [], ⟨kS, [110, 105, 108]⟩, [], []⟩
def cnO (a b : G.O) : G.O := ⟨4, [], [], ⟨[], []⟩, [], [a, b]⟩
def ObR (x : Rt) : Prop := ∃ o : G.O, x = some [yR 2 o] ∧ osz o ≤ 20
def chO (r : Rt) : Bool := match r with | some [⟨.rc 2, o⟩] => Nat.ble (osz o) 20 | _ => false
theorem kZ {r : Rt} (h : chO r = true) : ObR r := by
 unfold chO at h
 split at h
 ·rename_i o; exact ⟨o, rfl, Nat.le_of_ble_eq_true h⟩
 ·cases h
section
variable (L M : Nat)
theorem v_ok (w : List UInt8) : cF L M 60 6 [yT w] = some [yR 3 (tV w)] := by kernel_rfl
theorem l_ok (w : List UInt8) (l : List G.T) : cF L M 60 7 [yT w, yS 3 l] = some [yR 3 (tA ⟨kS, w⟩ l)] := by kernel_rfl
theorem a_ok (f : G.Y) (l : List G.T) : cF L M 60 38 [yR 1 f, yS 3 l] = some [yR 3 (tA f l)] := by kernel_rfl
theorem k_ok (o : G.O) : cF L M 60 40 [yR 2 o] = some [yR 3 (tC o)] := by kernel_rfl
theorem u_ok (w : List UInt8) : cF L M 60 11 [yT w] = some [yR 1 ⟨userS, w⟩] := by kernel_rfl
theorem s_ok (w : List UInt8) : cF L M 60 43 [yT w] = some [yR 1 ⟨kS, w⟩] := by kernel_rfl
theorem cn_ok (a b : G.O) : cF L M 60 69 [yR 2 a, yR 2 b] = some [yR 2 (cnO a b)] := by kernel_rfl
theorem li0_ok : cF L M 60 70 [yS 2 []] = some [yR 2 niO] := by kernel_rfl
theorem li1_ok (a : G.O) : cF L M 60 70 [yS 2 ([a] : List G.O)] = some [yR 2 (cnO a niO)] := by kernel_rfl
theorem li2_ok (a b : G.O) : cF L M 60 70 [yS 2 ([a, b] : List G.O)] = some [yR 2 (cnO a (cnO b niO))] := by kernel_rfl
theorem li3_ok (a b d : G.O) : cF L M 60 70 [yS 2 ([a, b, d] : List G.O)] = some [yR 2 (cnO a (cnO b (cnO d niO)))] := by kernel_rfl
theorem ob_n : ObR (cF L M 60 63 []) := kZ (by kernel_rfl)
theorem ob_t : ObR (cF L M 60 59 []) := kZ (by kernel_rfl)
theorem ob_i (r : Int) (h0 : 0 ≤ r) (h1 : r < 7) : ObR (cF L M 60 64 [yI (IntKind.i64.wrap (r - 3))]) := by
 obtain rfl | rfl | rfl | rfl | rfl | rfl | rfl : r = 0 ∨ r = 1 ∨ r = 2 ∨ r = 3 ∨ r = 4 ∨ r = 5 ∨ r = 6 := by omega
 all_goals exact kZ (by kernel_rfl)
theorem ob_0 : ObR (cF L M 60 64 [yI (0 : Int)]) := kZ (by kernel_rfl)
theorem ob_1 : ObR (cF L M 60 64 [yI (1 : Int)]) := kZ (by kernel_rfl)
theorem ob_q1 : ObR (cF L M 60 66 [yT ([49] : List UInt8), yT ([50] : List UInt8)]) := kZ (by kernel_rfl)
theorem ob_q2 : ObR (cF L M 60 66 [yT ([45, 53] : List UInt8), yT ([51] : List UInt8)]) := kZ (by kernel_rfl)
theorem ob_s1 (y : G.Y) : ObR (cF L M 60 67 [yR 1 y]) := kZ (by kernel_rfl)
theorem ob_x (w : List UInt8) : ObR (cF L M 60 68 [yT w]) := kZ (by kernel_rfl)
theorem hd_ok : ∃ l : List (List UInt8), cF L M 60 41 [] = some [⟨.sl .str, l⟩] ∧ l.length = 25 := ⟨match B41x0 (fun _ _ => none) with | some (⟨.sl .str, t⟩ :: _) => t | _ => [], by kernel_rfl, by kernel_rfl⟩
theorem ow_ok : ∃ l : List (List UInt8), cF L M 60 42 [] = some [⟨.sl .str, l⟩] ∧ l.length = 8 := ⟨match B42x0 (fun _ _ => none) with | some (⟨.sl .str, t⟩ :: _) => t | _ => [], by kernel_rfl, by kernel_rfl⟩
end
structure Lib (c : TC0) : Prop where
 v : ∀ w, c 6 [yT w] = some [yR 3 (tV w)]
 l : ∀ w (l : List G.T), c 7 [yT w, yS 3 l] = some [yR 3 (tA ⟨kS, w⟩ l)]
 a : ∀ (f : G.Y) (l : List G.T), c 38 [yR 1 f, yS 3 l] = some [yR 3 (tA f l)]
 k : ∀ o : G.O, c 40 [yR 2 o] = some [yR 3 (tC o)]
 u : ∀ w, c 11 [yT w] = some [yR 1 (⟨userS, w⟩ : G.Y)]
 s : ∀ w, c 43 [yT w] = some [yR 1 (⟨kS, w⟩ : G.Y)]
 cn : ∀ a b : G.O, c 69 [yR 2 a, yR 2 b] = some [yR 2 (cnO a b)]
 l0 : c 70 [yS 2 ([] : List G.O)] = some [yR 2 niO]
 l1 : ∀ a : G.O, c 70 [yS 2 ([a] : List G.O)] = some [yR 2 (cnO a niO)]
 l2 : ∀ a b : G.O, c 70 [yS 2 ([a, b] : List G.O)] = some [yR 2 (cnO a (cnO b niO))]
 l3 : ∀ a b d : G.O, c 70 [yS 2 ([a, b, d] : List G.O)] = some [yR 2 (cnO a (cnO b (cnO d niO)))]
 n : ObR (c 63 [])
 t : ObR (c 59 [])
 i : ∀ r : Int, 0 ≤ r → r < 7 → ObR (c 64 [yI (IntKind.i64.wrap (r - 3))])
 i0 : ObR (c 64 [yI (0 : Int)])
 i1 : ObR (c 64 [yI (1 : Int)])
 q1 : ObR (c 66 [yT ([49] : List UInt8), yT ([50] : List UInt8)])
 q2 : ObR (c 66 [yT ([45, 53] : List UInt8), yT ([51] : List UInt8)])
 sy : ∀ y : G.Y, ObR (c 67 [yR 1 y])
 x : ∀ w, ObR (c 68 [yT w])
 hd : ∃ l : List (List UInt8), c 41 [] = some [⟨.sl .str, l⟩] ∧ l.length = 25
 ow : ∃ l : List (List UInt8), c 42 [] = some [⟨.sl .str, l⟩] ∧ l.length = 8
 nx : ∀ (s : G.Z) (a : Int), bF s → 1 ≤ a → NxR (c 14 [yI a, yR 0 s]) a
theorem lib_ok (L M : Nat) : Lib (CTp (L + 7000) (M + 60)) := by
 have h : ∀ (s : G.Z) (a : Int), bF s → 1 ≤ a → NxR (CTp (L + 7000) (M + 60) 14 [yI a, yR 0 s]) a := fun s a h1 h2 => Nx_ok (n := M + 59) h1 h2
 rw [← cF_ok] at h ⊢
 exact ⟨v_ok L M, l_ok L M, a_ok L M, k_ok L M, u_ok L M, s_ok L M, cn_ok L M, li0_ok L M, li1_ok L M, li2_ok L M, li3_ok L M, ob_n L M, ob_t L M, ob_i L M, ob_0 L M, ob_1 L M, ob_q1 L M, ob_q2 L M, ob_s1 L M, ob_x L M, hd_ok L M, ow_ok L M, h⟩
end Go.TV
namespace Go.TV
open Go.AI Go.PI Go.Proofs
def OSR (x : Rt) (B : Nat) : Prop := ∃ (o : G.O) (s : G.Z), x = some [yR 2 o, yR 0 s] ∧ osz o ≤ B ∧ bF s
theorem OSR.mk {o : G.O} {s : G.Z} {B : Nat} (h : osz o ≤ B) (hs : bF s) : OSR (some [yR 2 o, yR 0 s]) B := ⟨o, s, rfl, h, hs⟩
theorem OSR.le {x : Rt} {A B : Nat} (h : OSR x A) (hl : A ≤ B) : OSR x B := by obtain ⟨o, s, h1, h2, h3⟩ := h; exact ⟨o, s, h1, by omega, h3⟩
theorem aBR {β : Type} {a : G.O} {K : G.O × Unit → Option β} : obL (D := U0.D) [.rc 2] (some [yR 2 a]) K = K (a, ()) := rfl
theorem aAE {β : Type} {a : G.O} {b : G.Z} {K : G.O × G.Z × Unit → Option β} : obL (D := U0.D) [.rc 2, .rc 0] (some [yR 2 a, yR 0 b]) K = K (a, b, ()) := rfl
theorem obL_ys {β : Type} {a : G.Y} {K : G.Y × Unit → Option β} : obL (D := U0.D) [.rc 1] (some [yR 1 a]) K = K (a, ()) := rfl
theorem tD {α : Type} {l : List α} {lo hi : Int} (h0 : 0 ≤ lo) (h1 : lo ≤ hi) (h2 : hi ≤ (l.length : Int)) : ∃ w, slc l lo hi = some w ∧ (w.length : Int) = hi - lo := by
 unfold slc
 have e1 : decide (0 ≤ lo) = true := by simpa using h0
 have e2 : decide (lo ≤ hi) = true := by simpa using h1
 have e3 : decide (hi ≤ (l.length : Int)) = true := by simpa using h2
 rw [e1, e2, e3]
 refine ⟨_, rfl, ?_⟩
 rw [List.length_drop, List.length_take]; omega
section
variable {c : TC0} (h : Lib c)
include h
theorem Ob_lo {L : Nat} {s : G.Z} (hs : bF s) {a5 a1 : Int} {b : G.O} (h0 : 0 ≤ a5) (h9 : a5 ≤ 9) : OSR (aFr c L a5 a1 s b) 20 := by
 have seven : ∀ K : Int × G.Z × Unit → Rt, (∀ r s', 0 ≤ r → r < 7 → bF s' → OSR (K (r, s', ())) 20) → OSR (obL (D := U0.D) [.int .i64, .rc 0] (c 14 [yI (7 : Int), yR 0 s]) K) 20 := fun K hK => by
  obtain ⟨r, s', e, g1, g2, g3⟩ := h.nx s 7 hs (by omega)
  rw [e, fE]; exact hK r s' g1 g2 g3
 have three : ∀ K : Int × G.Z × Unit → Rt, (∀ r s', 0 ≤ r → r < 3 → bF s' → OSR (K (r, s', ())) 20) → OSR (obL (D := U0.D) [.int .i64, .rc 0] (c 14 [yI (3 : Int), yR 0 s]) K) 20 := fun K hK => by
  obtain ⟨r, s', e, g1, g2, g3⟩ := h.nx s 3 hs (by omega)
  rw [e, fE]; exact hK r s' g1 g2 g3
 have obj : ∀ {x : Rt} {s' : G.Z}, ObR x → bF s' → OSR (obL (D := U0.D) [.rc 2] x fun (r : G.O × Unit) => some [yR 2 r.1, yR 0 s']) 20 := fun hx hs' => by
  obtain ⟨o, e, g⟩ := hx
  rw [e, aBR]; exact .mk g hs'
 rw [aFr, B39x2]
 obtain rfl | rfl | rfl | rfl | rfl | rfl | rfl | rfl | rfl | rfl : a5 = 0 ∨ a5 = 1 ∨ a5 = 2 ∨ a5 = 3 ∨ a5 = 4 ∨ a5 = 5 ∨ a5 = 6 ∨ a5 = 7 ∨ a5 = 8 ∨ a5 = 9 := by omega
 ·exact obj h.n hs
 ·exact obj h.t hs
 ·exact seven _ fun r s' g1 g2 g3 => obj (h.i r g1 g2) g3
 ·exact seven _ fun r s' g1 g2 g3 => obj (h.i r g1 g2) g3
 ·exact obj h.q1 hs
 ·exact obj h.q2 hs
 ·refine three _ fun r s' g1 g2 g3 => ?_
  obtain ⟨w, e1, l1⟩ := tD (l := ([97, 98, 99] : List UInt8)) (hi := 3) g1 (by omega) (by decide)
  obtain ⟨w2, e2, l2⟩ := tD (l := w) (lo := 0) (hi := 1) (by omega) (by omega) (by omega)
  show OSR (ob (slc ([97, 98, 99] : List UInt8) r 3) fun v5 => ob (slc v5 (0 : Int) (1 : Int)) fun v6 => obL (D := U0.D) [.rc 1] (c 11 [yT v6]) fun (r7 : G.Y × Unit) => obL (D := U0.D) [.rc 2] (c 67 [yR 1 r7.1]) fun (r8 : G.O × Unit) => some [yR 2 r8.1, yR 0 s']) 20
  rw [e1, dE, e2, dE, h.u, obL_ys]
  exact obj (h.sy _) g3
 ·refine three _ fun r s' g1 g2 g3 => ?_
  obtain ⟨w, e1, l1⟩ := tD (l := ([112, 113] : List UInt8)) (lo := 0) (hi := r) (by omega) g1 (by show r ≤ 2; omega)
  show OSR (ob (slc ([112, 113] : List UInt8) 0 r) fun v10 => obL (D := U0.D) [.rc 2] (c 68 [yT v10]) fun (r11 : G.O × Unit) => some [yR 2 r11.1, yR 0 s']) 20
  rw [e1, dE]
  exact obj (h.x _) g3
 ·exact obj h.i0 hs
 ·exact obj h.i1 hs
theorem Ob0 {L : Nat} {s : G.Z} (hs : bF s) : OSR (F39 c L 0 s) 20 := by
 rw [F39, B39x0]
 obtain ⟨r, s', e, g1, g2, g3⟩ := h.nx s 14 hs (by omega)
 rw [e, fE]
 show OSR (aCi c L (decide ((9 : Int) < r)) r 0 s' _) 20
 rw [aCi, B39x1]
 cases e2 : decide ((9 : Int) < r) with
 | true =>
  simp only [djE] at e2
  obtain ⟨m, rfl⟩ : ∃ m : Nat, r = ((m + 8 : Nat) : Int) := ⟨(r - 8).toNat, by omega⟩
  rw [aI, show ((m + 8 : Nat) : Int) - 8 = (m : Int) by omega, wrapn (by omega)]
  exact Ob_lo h g3 (by omega) (by omega)
 | false =>
  simp only [dfN] at e2
  exact Ob_lo h g3 g1 (by omega)
theorem Ol_loop {L : Nat} (h0 : ∀ s, bF s → OSR (c 39 [yI (0 : Int), yR 0 s]) 20) {b : G.O} {r : Nat} (hr : r ≤ 3) :
    ∀ (j k m : Nat) (a6 : List G.O) (s : G.Z), r = k + j → a6.length = k → oX a6 ≤ 21 * k → j < m → bF s → OSR (zL c L m (r : Int) 1 (k : Int) a6 s b) 200 := by
 intro j
 induction j with
 | zero =>
  intro k m a6 s h1 h2 h3 h4 hs
  obtain ⟨m, rfl⟩ : ∃ m', m = m' + 1 := ⟨m - 1, by omega⟩
  have e3 : decide ((k : Int) < (r : Int)) = false := by simp; omega
  rw [zL, B39x5, e3, aH]
  match a6, h2 with
  | [], _ => rw [h.l0, aBR]; exact .mk (by simp [niO, osz, oX]) hs
  | [a], h2 => rw [h.l1, aBR]; exact .mk (by simp [oX] at h3; simp [niO, cnO, osz, oX]; simp only [lcS, lnN] at h2; omega) hs
  | [a, d], h2 => rw [h.l2, aBR]; exact .mk (by simp [oX] at h3; simp [niO, cnO, osz, oX]; simp only [lcS, lnN] at h2; omega) hs
  | [a, d, e], h2 => rw [h.l3, aBR]; exact .mk (by simp [oX] at h3; simp [niO, cnO, osz, oX]; simp only [lcS, lnN] at h2; omega) hs
  | _ :: _ :: _ :: _ :: l, h2 => simp at h2; omega
 | succ j ih =>
  intro k m a6 s h1 h2 h3 h4 hs
  obtain ⟨m, rfl⟩ : ∃ m', m = m' + 1 := ⟨m - 1, by omega⟩
  have e3 : decide ((k : Int) < (r : Int)) = true := by simp; omega
  rw [zL, B39x5, e3, aI]
  obtain ⟨o, s', e, g1, g2⟩ := h0 s hs
  show OSR (obL (D := U0.D) [.rc 2, .rc 0] (c 39 [yI (0 : Int), yR 0 s]) _) 200
  rw [e, aAE]
  have e4 : Nat.ble ((a6.length + ([o] : List G.O).length) * 112) 1073741824 = true := by
   rw [Nat.ble_eq]; simp only [lcS, lnN]; omega
  simp only [e4, yO]
  rw [dF (by omega)]
  have hz : ∀ l : List G.O, oX (l ++ [o]) = oX l + osz o + 1 := by
   intro l
   induction l with
   | nil => simp [oX]
   | cons x l ih => simp only [cnA, oX, ih]; omega
  exact ih (k + 1) m (a6 ++ [o]) s' (by omega) (by simp; omega) (by rw [hz]; omega) (by omega) g2
theorem Ob1 {L : Nat} (hL : 10 ≤ L) (h0 : ∀ s, bF s → OSR (c 39 [yI (0 : Int), yR 0 s]) 20) {s : G.Z} (hs : bF s) : OSR (F39 c L 1 s) 200 := by
 rw [F39, B39x0]
 obtain ⟨r, s', e, g1, g2, g3⟩ := h.nx s 14 hs (by omega)
 rw [e, fE]
 show OSR (aCi c L false r 1 s' _) 200
 rw [aCi, B39x1, aH]
 by_cases h9 : r ≤ 9
 ·exact (Ob_lo h g3 g1 h9).le (by omega)
 have lst : ∀ b, OSR (aCh c L true 1 s' b) 200 := fun b => by
  rw [aCh, B39x4, aI]
  obtain ⟨q, s2, e, k1, k2, k3⟩ := h.nx s' 4 g3 (by omega)
  rw [e, fE]
  obtain ⟨m, rfl⟩ : ∃ m : Nat, q = (m : Int) := ⟨q.toNat, by omega⟩
  exact Ol_loop h h0 (by omega) m 0 L [] s2 (by omega) rfl (Nat.zero_le _) (by omega) k3
 rw [aFr, B39x2]
 obtain rfl | rfl | rfl | rfl : r = 10 ∨ r = 11 ∨ r = 12 ∨ r = 13 := by omega
 ·exact lst _
 ·exact lst _
 ·exact lst _
 ·have pr : ∀ b, OSR (aCh c L false 1 s' b) 200 := fun b => by
   rw [aCh, B39x4, aH]
   obtain ⟨o, s2, e, k1, k2⟩ := h0 s' g3
   show OSR (obL (D := U0.D) [.rc 2, .rc 0] (c 39 [yI (0 : Int), yR 0 s']) _) 200
   rw [e, aAE]
   obtain ⟨o2, s3, e, k3, k4⟩ := h0 s2 k2
   show OSR (obL (D := U0.D) [.rc 2, .rc 0] (c 39 [yI (0 : Int), yR 0 s2]) _) 200
   rw [e, aAE, h.cn, aBR]
   exact .mk (by simp only [cnO, osz, oX]; omega) k4
  exact pr zrO
end
end Go.TV
namespace Go.TV
open Go.AI Go.PI Go.Proofs
def TSR (x : Rt) (B : Nat) : Prop := ∃ (t : G.T) (s : G.Z), x = some [yR 3 t, yR 0 s] ∧ tsz t ≤ B ∧ bF s
theorem TSR.mk {o : G.T} {s : G.Z} {B : Nat} (h : tsz o ≤ B) (hs : bF s) : TSR (some [yR 3 o, yR 0 s]) B := ⟨o, s, rfl, h, hs⟩
theorem TSR.le {x : Rt} {A B : Nat} (h : TSR x A) (hl : A ≤ B) : TSR x B := by obtain ⟨o, s, h1, h2, h3⟩ := h; exact ⟨o, s, h1, by omega, h3⟩
theorem dM {β : Type} {a : G.T} {K : G.T × Unit → Option β} : obL (D := U0.D) [.rc 3] (some [yR 3 a]) K = K (a, ()) := rfl
theorem fD {β : Type} {a : G.T} {b : G.Z} {K : G.T × G.Z × Unit → Option β} : obL (D := U0.D) [.rc 3, .rc 0] (some [yR 3 a, yR 0 b]) K = K (a, b, ()) := rfl
theorem obL_ss {β : Type} {a : List (List UInt8)} {K : List (List UInt8) × Unit → Option β} : obL (D := U0.D) [.sl .str] (some [⟨.sl .str, a⟩]) K = K (a, ()) := rfl
theorem obL_y1 {β : Type} {a : G.Y} {K : G.Y × Unit → Option β} : obL (D := U0.D) [.rc 1] (some [yR 1 a]) K = K (a, ()) := rfl
theorem tV_sz (w : List UInt8) : tsz (tV w) = 6 := by simp [tV, tsz, cI, zrO, osz, oX]
theorem lJ (f : G.Y) (l : List G.T) : tsz (tA f l) = 6 + cI l := by simp [tA, tsz, zrO, osz, oX]
theorem tC_sz (o : G.O) : tsz (tC o) = 4 + osz o := by simp [tC, tsz, cI]
theorem tsz'_app (l : List G.T) (t : G.T) : cI (l ++ [t]) = cI l + tsz t + 1 := by
 induction l with
 | nil => simp [cI]
 | cons x l ih => simp only [cnA, cI, ih]; omega
section
variable {c : TC0} (h : Lib c)
include h
theorem Va_ok {L : Nat} {s : G.Z} (hs : bF s) : TSR (F15 c L s) 6 := by
 rw [F15, B15x0]
 obtain ⟨r, s', e, g1, g2, g3⟩ := h.nx s 3 hs (by omega)
 rw [e, fE]
 obtain ⟨w, e1, l1⟩ := tD (l := ([120, 121, 122] : List UInt8)) (hi := 3) g1 (by omega) (by decide)
 obtain ⟨w2, e2, l2⟩ := tD (l := w) (lo := 0) (hi := 1) (by omega) (by omega) (by omega)
 show TSR (ob (slc ([120, 121, 122] : List UInt8) r 3) fun v1 => ob (slc v1 (0 : Int) (1 : Int)) fun v2 => obL (D := U0.D) [.rc 3] (c 6 [yT v2]) fun (r3 : G.T × Unit) => some [yR 3 r3.1, yR 0 s']) 6
 rw [e1, dE, e2, dE, h.v, dM]
 exact .mk (by rw [tV_sz]; omega) g3
theorem Ta_loop {L : Nat} {E : List G.E} {d : Int} {B : Nat} (hB : B < 1000000) (hr : ∀ s, bF s → TSR (c 12 [yS 15 E, yI (IntKind.i64.wrap (d - 1)), yR 0 s]) B) {f : G.Y} {b : G.T} {r : Nat} (h3 : r ≤ 3) :
    ∀ (j k m : Nat) (a : List G.T) (s : G.Z), r = k + j → a.length = k → cI a ≤ (B + 1) * k → j < m → bF s → TSR (zO c L m (r : Int) E d (k : Int) a s f b) (6 + 3 * (B + 1)) := by
 intro j
 induction j with
 | zero =>
  intro k m a s h1 h2 h4 h5 hs
  obtain ⟨m, rfl⟩ : ∃ m', m = m' + 1 := ⟨m - 1, by omega⟩
  have e3 : decide ((k : Int) < (r : Int)) = false := by simp; omega
  rw [zO, B12x4, e3, aH, h.a, dM]
  refine .mk ?_ hs
  have : (B + 1) * k ≤ (B + 1) * 3 := Nat.mul_le_mul_left _ (by omega)
  rw [lJ]; omega
 | succ j ih =>
  intro k m a s h1 h2 h4 h5 hs
  obtain ⟨m, rfl⟩ : ∃ m', m = m' + 1 := ⟨m - 1, by omega⟩
  have e3 : decide ((k : Int) < (r : Int)) = true := by simp; omega
  obtain ⟨t, s', e, g1, g2⟩ := hr s hs
  rw [zO, B12x4, e3, aI, e, fD]
  have e4 : Nat.ble ((a.length + ([t] : List G.T).length) * 176) 1073741824 = true := by
   rw [Nat.ble_eq]; simp only [lcS, lnN]; omega
  simp only [e4, yO]
  rw [dF (by omega)]
  refine ih (k + 1) m (a ++ [t]) s' (by omega) (by simp; omega) ?_ (by omega) g2
  rw [tsz'_app, Nat.mul_add]; omega
theorem Te_ok {L : Nat} (hL : 10 ≤ L) {E : List G.E} {d : Int} {B : Nat} (hB : B < 1000000) (hB2 : 204 ≤ B) (hv : ∀ s, bF s → TSR (c 15 [yR 0 s]) 6) (ho : ∀ s, bF s → OSR (c 39 [yI (1 : Int), yR 0 s]) 200)
    (ha : ∀ f : G.Y, ArR (c 44 [yS 15 E, yR 1 f])) (hr : 1 ≤ d → ∀ s, bF s → TSR (c 12 [yS 15 E, yI (IntKind.i64.wrap (d - 1)), yR 0 s]) B) {s : G.Z} (hs : bF s) :
    TSR (F12 c L E d s) (bif decide (d < 1) then 204 else 6 + 3 * (B + 1)) := by
 have lo : ∀ (a7 : Int) (s' : G.Z) (b : G.T), a7 ≤ 3 → bF s' → TSR (aFu c L a7 E d s' b) 204 := fun a7 s' b g1 g2 => by
  rw [aFu, B12x2]
  cases e1 : decide (a7 < (3 : Int)) with
  | true =>
   obtain ⟨t, s2, e, q1, q2⟩ := hv s' g2
   rw [aI, e, fD]
   exact .mk (by show tsz t ≤ 204; omega) q2
  | false =>
   simp only [dfN] at e1
   have e2 : decide (a7 = (3 : Int)) = true := by simp; omega
   obtain ⟨o, s2, e, q1, q2⟩ := ho s' g2
   rw [aH, e2, aI, e, aAE, h.k, dM]
   exact .mk (by show tsz (tC o) ≤ 204; rw [tC_sz]; omega) q2
 obtain ⟨r, s', e, g1, g2, g3⟩ := h.nx s 12 hs (by omega)
 rw [F12, B12x0, e, fE]
 cases e1 : decide (d < (1 : Int)) with
 | true =>
  rw [aI, cdt]
  show TSR (aCm c L (decide ((3 : Int) < r)) r E d s' _) _
  rw [aCm, B12x1]
  cases e2 : decide ((3 : Int) < r) with
  | true =>
   rw [aI, show decide ((4 : Int) = 0) = false by decide]
   simp only [Bool.not_false, yO]
   exact lo _ _ _ (by have := Int.tmod_lt_of_pos r (b := 4) (by omega); omega) g3
  | false =>
   simp only [dfN] at e2
   exact lo _ _ _ (by omega) g3
 | false =>
  rw [aH, cdf]
  simp only [dfN] at e1
  show TSR (aCm c L false r E d s' _) _
  rw [aCm, B12x1, aH]
  by_cases h4 : r ≤ 3
  ·exact (lo _ _ _ h4 g3).le (by omega)
  have jn : ∀ (s2 : G.Z) (f : G.Y) (b : G.T), bF s2 → TSR (J12x3 c L E d s2 f b) (6 + 3 * (B + 1)) := fun s2 f b k1 => by
   obtain ⟨k, b2, e, k2⟩ := ha f
   rw [J12x3, B12x3, e, aAF]
   exact Ta_loop h hB (hr (by omega)) k2 k 0 L [] s2 (by omega) rfl (Nat.zero_le _) (by omega) k1
  have e2 : decide (r < (3 : Int)) = false := by simp; omega
  have e3 : decide (r = (3 : Int)) = false := by simp; omega
  obtain ⟨lh, eh, hh⟩ := h.hd
  obtain ⟨lw, ew, hw⟩ := h.ow
  obtain ⟨q, s2, e4, k1, k2, k3⟩ := h.nx s' 4 g3 (by omega)
  rw [aFu, B12x2, e2, aH, e3, aH, eh, obL_ss, ew, obL_ss, e4, fE]
  cases e5 : decide (q < (3 : Int)) with
  | true =>
   obtain ⟨i, s3, e6, k4, k5, k6⟩ := h.nx s2 (lh.length : Int) k3 (by omega)
   obtain ⟨m, rfl⟩ : ∃ m : Nat, i = (m : Int) := ⟨i.toNat, by omega⟩
   have hm : lh[m]? = some (lh[m]'(by omega)) := geG _
   simp only [aI]
   rw [e6, fE]
   simp only [aL, hm, dE]
   rw [h.s, obL_y1]
   exact jn _ _ _ k6
  | false =>
   obtain ⟨i, s3, e6, k4, k5, k6⟩ := h.nx s2 (lw.length : Int) k3 (by omega)
   obtain ⟨m, rfl⟩ : ∃ m : Nat, i = (m : Int) := ⟨i.toNat, by omega⟩
   have hm : lw[m]? = some (lw[m]'(by omega)) := geG _
   simp only [aH]
   rw [e6, fE]
   simp only [aL, hm, dE]
   rw [h.u, obL_y1]
   exact jn _ _ _ k6
theorem Li_ok {L : Nat} {E : List G.E} {A B : Nat} (hv : ∀ s, bF s → TSR (c 15 [yR 0 s]) 6)
    (h2 : ∀ s, bF s → TSR (c 12 [yS 15 E, yI (2 : Int), yR 0 s]) A) (h1 : ∀ s, bF s → TSR (c 12 [yS 15 E, yI (1 : Int), yR 0 s]) B) {s : G.Z} (hs : bF s) :
    TSR (F45 c L E 2 s) (A + B + 30) := by
 obtain ⟨t, s2, e, g1, g2⟩ := h2 s hs
 obtain ⟨r, s3, e2, k1, k2, k3⟩ := h.nx s2 8 g2 (by omega)
 rw [F45, B45x0, e, fD, e2, fE]
 have key : ∀ (a : Bool) (b : G.T), TSR (J45x1 c L a r E 2 s3 t b) (A + B + 30) := fun a b => by
  rw [J45x1, B45x1]
  cases a with
  | true =>
   rw [aI, h.l, dM]
   exact .mk (by rw [lJ]; simp only [cI]; omega) k3
  | false =>
   rw [aH]
   cases decide (r = (2 : Int)) with
   | true =>
    obtain ⟨t2, s4, e, q1, q2⟩ := h1 s3 k3
    rw [aI]
    show TSR (obL (D := U0.D) [.rc 3, .rc 0] (c 12 [yS 15 E, yI (1 : Int), yR 0 s3]) _) _
    rw [e, fD]
    simp only []
    rw [h.l, dM]
    simp only []
    rw [h.l, dM]
    exact .mk (by rw [lJ]; simp only [cI]; rw [lJ]; simp only [cI]; omega) q2
   | false =>
    rw [aH]
    cases decide (r = (3 : Int)) with
    | true =>
     obtain ⟨t2, s4, e, q1, q2⟩ := hv s3 k3
     rw [aI, e, fD]
     simp only []
     rw [h.l, dM]
     simp only []
     rw [h.l, dM]
     exact .mk (by rw [lJ]; simp only [cI]; rw [lJ]; simp only [cI]; omega) q2
    | false =>
     rw [aH]
     cases decide (r = (4 : Int)) with
     | true =>
      obtain ⟨t2, s4, e, q1, q2⟩ := h1 s3 k3
      rw [aI]
      show TSR (obL (D := U0.D) [.rc 3, .rc 0] (c 12 [yS 15 E, yI (1 : Int), yR 0 s3]) _) _
      rw [e, fD]
      simp only []
      rw [h.l, dM]
      exact .mk (by rw [lJ]; simp only [cI]; omega) q2
     | false =>
      rw [aH]
      cases decide (r = (5 : Int)) with
      | true =>
       obtain ⟨t1, s4, e, q1, q2⟩ := hv s3 k3
       rw [aI, e, fD]
       obtain ⟨t2, s5, e, q3, q4⟩ := h1 s4 q2
       show TSR (obL (D := U0.D) [.rc 3, .rc 0] (c 12 [yS 15 E, yI (1 : Int), yR 0 s4]) _) _
       rw [e, fD]
       simp only []
       rw [h.l, dM]
       simp only []
       rw [h.l, dM]
       exact .mk (by rw [lJ]; simp only [cI]; rw [lJ]; simp only [cI]; omega) q4
      | false => exact .mk (by omega) k3
 cases decide (r = (0 : Int)) with
 | true => exact key _ _
 | false => exact key _ _
end
end Go.TV
