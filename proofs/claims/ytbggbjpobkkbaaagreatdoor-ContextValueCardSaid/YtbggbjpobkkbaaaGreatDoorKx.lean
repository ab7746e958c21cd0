import Derived.Test.YtbggbjpobkkbaaaGreatDoorKq
set_option linter.unusedVariables false
set_option linter.unusedSimpArgs false
set_option linter.constructorNameAsVariable false
namespace Go.TV
open Go.AI Go.PI Go.Proofs
set_option maxRecDepth 20000
noncomputable section
variable (c : TC0) (e : Cu) (L : Nat)
def q0x0 (c : TC0) (e : Cu) : Kt := xK ii0
def q0x1 (c : TC0) (e : Cu) : Kt := xT ii0 c e [1, 1, 1, 1, 1, 1, 1, 1] (q0x0 c e)
def q0x2 (c : TC0) (e : Cu) : Kt := dW U0 0 (q0x1 c e)
def q0x3 (c : TC0) (e : Cu) (n1 : Nt) : Kt := lpK U0 aC0 n1 (q0x2 c e)
def q0x4 (c : TC0) (e : Cu) (n1 : Nt) : Kt := xT ii0 c e [1, 1, 1, 1, 1, 1, 1, 0, 1, 0, 0, 1] (q0x3 c e n1)
def q0x5 (c : TC0) (e : Cu) (n1 : Nt) : Kt := xT ii0 c e [1, 1, 1, 1, 1, 1, 1, 0, 1, 0, 0, 1, 1] (q0x3 c e n1)
def q0x6 (c : TC0) (e : Cu) (n1 : Nt) : Kt := dW U0 1 (q0x5 c e n1)
def B0x0 (c : TC0) (e1 : List G.T → List G.T → Int → Rt) (a0 : List Int) : Rt :=
 obL [.bool] (c 2 []) fun (r0 : Bool × Unit) =>
 cnd (!r0.1) (some [yB false]) (cnd (decide ((100 : Int) < (List.length a0 : Int))) (some [yB true]) (obL [zS 15] (c 3 [⟨(.int .u32), (0 : Int)⟩]) fun (r1 : List G.E × Unit) =>
 obL [zS 3, .rc 0] (c 4 [yS 15 r1.1, yI (5 : Int), yI (2 : Int), yR 0 (G.Z.mk a0 (0 : Int))]) fun (r2 : List G.T × G.Z × Unit) =>
 obL [zS 3, .rc 0] (c 5 [yS 15 r1.1, yS 3 r2.1, yR 0 r2.2.1]) fun (r3 : List G.T × G.Z × Unit) =>
 e1 r2.1 r3.1 (0 : Int)))
def V0x0 (n : Nt) : List Int → Rt := fun x0 => n [⟨(.sl (.int .u8)), x0⟩]
def B0x1 (c : TC0) (k2 : Bool → Int → List G.T → List G.T → Rt) (a5 : List G.T) (a6 : List G.T) (a7 : Int) : Rt :=
 cnd (decide (a7 < (List.length a6 : Int))) (k2 (decide (a7 < (40 : Int))) a7 a5 a6) (k2 false a7 a5 a6)
def V0x1 (n : Nt) : List G.T → List G.T → Int → Rt := fun x0 x1 x2 => n [yS 3 x0, yS 3 x1, yI x2]
def X0x1 := V0x1 (xE ii0 e [1, 1, 1, 1, 1, 1, 1, 0, 1, 0, 0] aC0 (q0x2 c e))
def B0x2 (c : TC0) (k3 : Bool → Int → List G.T → List G.T → Rt) (a35 : Bool) (a7 : Int) (a5 : List G.T) (a6 : List G.T) : Rt :=
 cnd a35 (ob (idx a6 a7) fun v0 =>
 obL [.rc 2, .bool] (c 6 [yS 3 a5, yR 3 v0]) fun (r1 : G.O × Bool × Unit) =>
 ob (idx a6 a7) fun v2 =>
 obL [.rc 2, .bool] (c 7 [yS 3 a5, yR 3 v2]) fun (r3 : G.O × Bool × Unit) =>
 cnd (!(r1.2.1 == r3.2.1)) (k3 true a7 a5 a6) (obL [.bool] (c 8 [yR 2 r1.1, yR 2 r3.1]) fun (r4 : Bool × Unit) =>
 k3 (!r4.1) a7 a5 a6)) (some [yB true])
def V0x2 (n : Nt) : Bool → Int → List G.T → List G.T → Rt := fun x0 x1 x2 x3 => n [yB x0, yI x1, yS 3 x2, yS 3 x3]
def X0x2 (n1 : Nt) := V0x2 (xD ii0 e [1, 1, 1, 1, 1, 1, 1, 0, 1, 0, 0, 0, 1, 0] ct0x2 (q0x4 c e n1))
def B0x3 (c : TC0) (n1 : List G.T → List G.T → Int → Rt) (a64 : Bool) (a7 : Int) (a5 : List G.T) (a6 : List G.T) : Rt :=
 cnd a64 (some [yB false]) (n1 a5 a6 (IntKind.i64.wrap (a7 + (1 : Int))))
def V0x3 (n : Nt) : Bool → Int → List G.T → List G.T → Rt := fun x0 x1 x2 x3 => n [yB x0, yI x1, yS 3 x2, yS 3 x3]
def X0x3 (n1 : Nt) := V0x3 (xD ii0 e [1, 1, 1, 1, 1, 1, 1, 0, 1, 0, 0, 1, 0, 0, 1, 1, 1, 0] ct0x3 (q0x6 c e n1))
theorem s0x0 : V0x0 (xF ii0 c e) = B0x0 c (X0x1 c e) := by kernel_rfl
theorem s0x1 (n1 : Nt) : V0x1 (xA ii0 c e [1, 1, 1, 1, 1, 1, 1, 0, 1, 0, 0] aC0 (lpK U0 aC0 n1 (q0x2 c e))) = B0x1 c (X0x2 c e n1) := by kernel_rfl
theorem s0x2 (n1 : Nt) : V0x2 (xA ii0 c e [1, 1, 1, 1, 1, 1, 1, 0, 1, 0, 0, 0, 1, 0] ct0x2 (q0x4 c e n1)) = B0x2 c (X0x3 c e n1) := by kernel_rfl
theorem s0x3 (n1 : Nt) : V0x3 (xA ii0 c e [1, 1, 1, 1, 1, 1, 1, 0, 1, 0, 0, 1, 0, 0, 1, 1, 1, 0] ct0x3 (q0x6 c e n1)) = B0x3 c (V0x1 n1) := by kernel_rfl
def J0x3 (c : TC0) (L : Nat) (n1 : List G.T → List G.T → Int → Rt) : Bool → Int → List G.T → List G.T → Rt := B0x3 c n1
theorem j0x3 (n1 : Nt) : X0x3 c (cu c L) n1 = J0x3 c L (V0x1 n1) := by rw [X0x3, bF, s0x3]; rfl
def J0x2 (c : TC0) (L : Nat) (n1 : List G.T → List G.T → Int → Rt) : Bool → Int → List G.T → List G.T → Rt := B0x2 c (J0x3 c L n1)
theorem j0x2 (n1 : Nt) : X0x2 c (cu c L) n1 = J0x2 c L (V0x1 n1) := by rw [X0x2, bF, s0x2]; simp only [j0x3]; rfl
def W0x1 (c : TC0) (L : Nat) : Nat → List G.T → List G.T → Int → Rt
 | 0 => fun _ _ _ => none
 | n + 1 => B0x1 c (J0x2 c L (W0x1 c L n))
theorem u0x1 (n : Nat) : V0x1 (xL ii0 c L [1, 1, 1, 1, 1, 1, 1, 0, 1, 0, 0] aC0 (q0x2 c (cu c L)) n) = W0x1 c L n := by
 induction n with
 | zero => rfl
 | succ n ih => rw [iU, s0x1]; simp only [j0x2, ih]; rfl
theorem w0x1 : X0x1 c (cu c L) = W0x1 c L L := u0x1 c L L
def F0 (c : TC0) (L : Nat) : List Int → Rt := B0x0 c (W0x1 c L L)
theorem e0 : V0x0 (xF ii0 c (cu c L)) = F0 c L := by rw [s0x0]; simp only [w0x1]; rfl
theorem c0 (a0 : List Int) (L n : Nat) : CTp L (n + 1) 0 [⟨(.sl (.int .u8)), a0⟩] = F0 (CTp L n) L a0 := by rw [← e0]; exact cg (x := ii0) (by kernel_rfl) (by kernel_rfl) L n _
def q1x0 (c : TC0) (e : Cu) : Kt := xK ii1
def q1x1 (c : TC0) (e : Cu) : Kt := xT ii1 c e [1, 1, 1] (q1x0 c e)
def q1x2 (c : TC0) (e : Cu) : Kt := dW U0 0 (q1x1 c e)
def q1x3 (c : TC0) (e : Cu) (n1 : Nt) : Kt := lpK U0 aCZ n1 (q1x2 c e)
def B1x0 (c : TC0) (e1 : List G.T → Int → List G.T → Rt) (a0 : List G.T) (a1 : List G.T) : Rt :=
 chk (decide (0 ≤ (0 : Int)) && decide ((0 : Int) ≤ (IntKind.i64.wrap ((List.length a0 : Int) + (List.length a1 : Int)))) && decide ((IntKind.i64.wrap ((List.length a0 : Int) + (List.length a1 : Int))) * (176 : Int) ≤ 1073741824) && decide ((IntKind.i64.wrap ((List.length a0 : Int) + (List.length a1 : Int))) ≤ 1073741824)) <|
 chk (decide ((0 : Int) = 0)) <|
 chk (Nat.ble ((List.length ([] : List G.T) + List.length a0) * 176) 1073741824) <|
 e1 a1 (0 : Int) (([] : List G.T) ++ a0)
def V1x0 (n : Nt) : List G.T → List G.T → Rt := fun x0 x1 => n [yS 3 x0, yS 3 x1]
def B1x1 (c : TC0) (k2 : Int → List G.T → List G.T → Rt) (a1 : List G.T) (a6 : Int) (a5 : List G.T) : Rt :=
 cnd (decide (a6 < (List.length a1 : Int))) (ob (idx a1 a6) fun v0 =>
 obL [.bool] (c 9 [yS 3 a5, yR 3 v0]) fun (r1 : Bool × Unit) =>
 cnd (!r1.1) (ob (idx a1 a6) fun v2 =>
 chk (Nat.ble ((List.length a5 + List.length ([v2] : List G.T)) * 176) 1073741824) <|
 k2 a6 a1 (a5 ++ ([v2] : List G.T))) (k2 a6 a1 a5)) (some [yS 3 a5])
def V1x1 (n : Nt) : List G.T → Int → List G.T → Rt := fun x0 x1 x2 => n [yS 3 x0, yI x1, yS 3 x2]
def X1x1 := V1x1 (xE ii1 e [1, 1, 0, 1, 0, 0] aCZ (q1x2 c e))
def B1x2 (c : TC0) (n1 : List G.T → Int → List G.T → Rt) (a6 : Int) (a1 : List G.T) (a5 : List G.T) : Rt :=
 n1 a1 (IntKind.i64.wrap (a6 + (1 : Int))) a5
def V1x2 (n : Nt) : Int → List G.T → List G.T → Rt := fun x0 x1 x2 => n [yI x0, yS 3 x1, yS 3 x2]
def X1x2 (n1 : Nt) := V1x2 (xD ii1 e [1, 1, 0, 1, 0, 0, 1, 1, 0] ct1x2 (q1x3 c e n1))
theorem s1x0 : V1x0 (xF ii1 c e) = B1x0 c (X1x1 c e) := by kernel_rfl
theorem s1x1 (n1 : Nt) : V1x1 (xA ii1 c e [1, 1, 0, 1, 0, 0] aCZ (lpK U0 aCZ n1 (q1x2 c e))) = B1x1 c (X1x2 c e n1) := by kernel_rfl
theorem s1x2 (n1 : Nt) : V1x2 (xA ii1 c e [1, 1, 0, 1, 0, 0, 1, 1, 0] ct1x2 (q1x3 c e n1)) = B1x2 c (V1x1 n1) := by kernel_rfl
def J1x2 (c : TC0) (L : Nat) (n1 : List G.T → Int → List G.T → Rt) : Int → List G.T → List G.T → Rt := B1x2 c n1
theorem j1x2 (n1 : Nt) : X1x2 c (cu c L) n1 = J1x2 c L (V1x1 n1) := by rw [X1x2, bF, s1x2]; rfl
def W1x1 (c : TC0) (L : Nat) : Nat → List G.T → Int → List G.T → Rt
 | 0 => fun _ _ _ => none
 | n + 1 => B1x1 c (J1x2 c L (W1x1 c L n))
theorem u1x1 (n : Nat) : V1x1 (xL ii1 c L [1, 1, 0, 1, 0, 0] aCZ (q1x2 c (cu c L)) n) = W1x1 c L n := by
 induction n with
 | zero => rfl
 | succ n ih => rw [iU, s1x1]; simp only [j1x2, ih]; rfl
theorem w1x1 : X1x1 c (cu c L) = W1x1 c L L := u1x1 c L L
def F1 (c : TC0) (L : Nat) : List G.T → List G.T → Rt := B1x0 c (W1x1 c L L)
theorem e1 : V1x0 (xF ii1 c (cu c L)) = F1 c L := by rw [s1x0]; simp only [w1x1]; rfl
def q3x0 (c : TC0) (e : Cu) : Kt := xK ii3
def q3x1 (c : TC0) (e : Cu) : Kt := xT ii3 c e [1, 1, 1, 1] (q3x0 c e)
def q3x2 (c : TC0) (e : Cu) : Kt := dW U0 0 (q3x1 c e)
def q3x3 (c : TC0) (e : Cu) : Kt := xT ii3 c e [1, 1, 1, 1, 1, 1] (q3x0 c e)
def q3x4 (c : TC0) (e : Cu) : Kt := dW U0 2 (q3x3 c e)
def q3x5 (c : TC0) (e : Cu) (n2 : Nt) : Kt := lpK U0 aCY n2 (q3x4 c e)
def B3x0 (c : TC0) (e1 : (List (List G.F)) → Int → Int → List G.E → Rt) (a0 : Int) : Rt :=
 obL [zS 15] (c 12 []) fun (r0 : List G.E × Unit) =>
 obL [.sl (zS 4)] (c 13 []) fun (r1 : (List (List G.F)) × Unit) =>
 e1 r1.1 (0 : Int) a0 r0.1
def V3x0 (n : Nt) : Int → Rt := fun x0 => n [⟨(.int .u32), x0⟩]
def B3x1 (c : TC0) (n1 : (List (List G.F)) → Int → Int → List G.E → Rt) (e2 : Int → List G.L → Int → List G.E → Rt) (a4 : (List (List G.F))) (a5 : Int) (a0 : Int) (a3 : List G.E) : Rt :=
 cnd (decide (a5 < (List.length a4 : Int))) (ob (idx a4 a5) fun v0 =>
 ob (idx v0 (0 : Int)) fun v1 =>
 ob (idx a4 a5) fun v2 =>
 chk (Nat.ble ((List.length a3 + List.length ([(G.E.mk (3 : Int) v1.name (G.A.mk ([] : List UInt8) ([] : List G.Y)) (G.M.mk (G.Y.mk ([] : List UInt8) ([] : List UInt8)) ([] : List G.Y) false (G.T.mk (0 : Int) (G.Y.mk ([] : List UInt8) ([] : List UInt8)) (G.O.mk (0 : Int) ([] : List UInt8) ([] : List UInt8) (G.Y.mk ([] : List UInt8) ([] : List UInt8)) ([] : List UInt8) ([] : List G.O)) ([] : List G.T))) v2 ([] : List G.T) ([] : List (List G.N)) ([] : List G.E) (G.B.mk (G.Y.mk ([] : List UInt8) ([] : List UInt8)) ([] : List G.D)) ([] : List G.U) ([] : List G.Y) ([] : List G.Y) ([] : List UInt8) (0 : Int))] : List G.E)) * 568) 1073741824) <|
 n1 a4 (IntKind.i64.wrap (a5 + (1 : Int))) a0 (a3 ++ ([(G.E.mk (3 : Int) v1.name (G.A.mk ([] : List UInt8) ([] : List G.Y)) (G.M.mk (G.Y.mk ([] : List UInt8) ([] : List UInt8)) ([] : List G.Y) false (G.T.mk (0 : Int) (G.Y.mk ([] : List UInt8) ([] : List UInt8)) (G.O.mk (0 : Int) ([] : List UInt8) ([] : List UInt8) (G.Y.mk ([] : List UInt8) ([] : List UInt8)) ([] : List UInt8) ([] : List G.O)) ([] : List G.T))) v2 ([] : List G.T) ([] : List (List G.N)) ([] : List G.E) (G.B.mk (G.Y.mk ([] : List UInt8) ([] : List UInt8)) ([] : List G.D)) ([] : List G.U) ([] : List G.Y) ([] : List G.Y) ([] : List UInt8) (0 : Int))] : List G.E))) (obL [zS 16] (c 14 []) fun (r3 : List G.L × Unit) =>
 e2 a0 r3.1 (0 : Int) a3)
def V3x1 (n : Nt) : (List (List G.F)) → Int → Int → List G.E → Rt := fun x0 x1 x2 x3 => n [⟨.sl (zS 4), x0⟩, yI x1, ⟨(.int .u32), x2⟩, yS 15 x3]
def X3x1 := V3x1 (xE ii3 e [1, 1, 1, 0, 1, 0, 0] aFu (q3x2 c e))
def B3x2 (c : TC0) (k3 : Int → Int → List G.L → List G.E → Rt) (a0 : Int) (a6 : List G.L) (a7 : Int) (a3 : List G.E) : Rt :=
 cnd (decide (a7 < (List.length a6 : Int))) (chk (decide (0 ≤ a7)) <|
 cnd (decide ((IntKind.u32.wrap ((BitVec.ofInt IntKind.u32.bits (Int.fdiv a0 (2 ^ (min (Int.toNat a7) IntKind.u32.bits))) &&& BitVec.ofInt IntKind.u32.bits (1 : Int)).toNat : Int)) = (0 : Int))) (k3 a7 a0 a6 a3) (ob (idx a6 a7) fun v0 =>
 ob (idx a6 a7) fun v1 =>
 obL [.rc 1] (c 15 [yT v0.name]) fun (r2 : G.Y × Unit) =>
 ob (idx a6 a7) fun v3 =>
 ob (idx a6 a7) fun v4 =>
 none)) (some [yS 15 a3])
def V3x2 (n : Nt) : Int → List G.L → Int → List G.E → Rt := fun x0 x1 x2 x3 => n [⟨(.int .u32), x0⟩, yS 16 x1, yI x2, yS 15 x3]
def X3x2 := V3x2 (xE ii3 e [1, 1, 1, 1, 1, 0, 1, 0, 0] aCY (q3x4 c e))
def B3x3 (c : TC0) (n2 : Int → List G.L → Int → List G.E → Rt) (a7 : Int) (a0 : Int) (a6 : List G.L) (a3 : List G.E) : Rt :=
 n2 a0 a6 (IntKind.i64.wrap (a7 + (1 : Int))) a3
def V3x3 (n : Nt) : Int → Int → List G.L → List G.E → Rt := fun x0 x1 x2 x3 => n [yI x0, ⟨(.int .u32), x1⟩, yS 16 x2, yS 15 x3]
def X3x3 (n2 : Nt) := V3x3 (xD ii3 e [1, 1, 1, 1, 1, 0, 1, 0, 0, 1, 1, 0] ct3x3 (q3x5 c e n2))
theorem s3x0 : V3x0 (xF ii3 c e) = B3x0 c (X3x1 c e) := by kernel_rfl
theorem s3x1 (n1 : Nt) : V3x1 (xA ii3 c e [1, 1, 1, 0, 1, 0, 0] aFu (lpK U0 aFu n1 (q3x2 c e))) = B3x1 c (V3x1 n1) (X3x2 c e) := by kernel_rfl
theorem s3x2 (n2 : Nt) : V3x2 (xA ii3 c e [1, 1, 1, 1, 1, 0, 1, 0, 0] aCY (lpK U0 aCY n2 (q3x4 c e))) = B3x2 c (X3x3 c e n2) := by kernel_rfl
theorem s3x3 (n2 : Nt) : V3x3 (xA ii3 c e [1, 1, 1, 1, 1, 0, 1, 0, 0, 1, 1, 0] ct3x3 (q3x5 c e n2)) = B3x3 c (V3x2 n2) := by kernel_rfl
def J3x3 (c : TC0) (L : Nat) (n2 : Int → List G.L → Int → List G.E → Rt) : Int → Int → List G.L → List G.E → Rt := B3x3 c n2
theorem j3x3 (n2 : Nt) : X3x3 c (cu c L) n2 = J3x3 c L (V3x2 n2) := by rw [X3x3, bF, s3x3]; rfl
def W3x2 (c : TC0) (L : Nat) : Nat → Int → List G.L → Int → List G.E → Rt
 | 0 => fun _ _ _ _ => none
 | n + 1 => B3x2 c (J3x3 c L (W3x2 c L n))
theorem u3x2 (n : Nat) : V3x2 (xL ii3 c L [1, 1, 1, 1, 1, 0, 1, 0, 0] aCY (q3x4 c (cu c L)) n) = W3x2 c L n := by
 induction n with
 | zero => rfl
 | succ n ih => rw [iU, s3x2]; simp only [j3x3, ih]; rfl
theorem w3x2 : X3x2 c (cu c L) = W3x2 c L L := u3x2 c L L
def W3x1 (c : TC0) (L : Nat) : Nat → (List (List G.F)) → Int → Int → List G.E → Rt
 | 0 => fun _ _ _ _ => none
 | n + 1 => B3x1 c (W3x1 c L n) (W3x2 c L L)
theorem u3x1 (n : Nat) : V3x1 (xL ii3 c L [1, 1, 1, 0, 1, 0, 0] aFu (q3x2 c (cu c L)) n) = W3x1 c L n := by
 induction n with
 | zero => rfl
 | succ n ih => rw [iU, s3x1]; simp only [w3x2, ih]; rfl
theorem w3x1 : X3x1 c (cu c L) = W3x1 c L L := u3x1 c L L
def F3 (c : TC0) (L : Nat) : Int → Rt := B3x0 c (W3x1 c L L)
theorem e3 : V3x0 (xF ii3 c (cu c L)) = F3 c L := by rw [s3x0]; simp only [w3x1]; rfl
theorem c3 (a0 : Int) (L n : Nat) : CTp L (n + 1) 3 [⟨(.int .u32), a0⟩] = F3 (CTp L n) L a0 := by rw [← e3]; exact cg (x := ii3) (by kernel_rfl) (by kernel_rfl) L n _
def q4x0 (c : TC0) (e : Cu) : Kt := xK ii4
def q4x1 (c : TC0) (e : Cu) : Kt := xT ii4 c e [1, 1, 1, 1] (q4x0 c e)
def q4x2 (c : TC0) (e : Cu) : Kt := dW U0 0 (q4x1 c e)
def q4x3 (c : TC0) (e : Cu) (n1 : Nt) : Kt := lpK U0 aCX n1 (q4x2 c e)
def q4x4 (c : TC0) (e : Cu) (n1 : Nt) : Kt := xT ii4 c e [1, 1, 1, 0, 1, 0, 0, 1, 1] (q4x3 c e n1)
def q4x5 (c : TC0) (e : Cu) (n1 : Nt) : Kt := dW U0 1 (q4x4 c e n1)
def B4x0 (c : TC0) (e1 : Int → List G.E → Int → Int → List G.T → G.Z → Rt) (a1 : List G.E) (a2 : Int) (a3 : Int) (b0 : G.Z) : Rt :=
 obL [i6, .rc 0] (c 16 [yI (IntKind.i64.wrap (a2 + (1 : Int))), yR 0 b0]) fun (r0 : Int × G.Z × Unit) =>
 e1 r0.1 a1 a3 (0 : Int) ([] : List G.T) r0.2.1
def V4x0 (n : Nt) : List G.E → Int → Int → G.Z → Rt := fun x0 x1 x2 x3 => n [yS 15 x0, yI x1, yI x2, yR 0 x3]
def B4x1 (c : TC0) (k2 : List G.T → Int → Int → List G.E → Int → G.Z → G.T → Rt) (a10 : Int) (a1 : List G.E) (a3 : Int) (a11 : Int) (a9 : List G.T) (b0 : G.Z) : Rt :=
 cnd (decide (a11 < a10)) (obL [.rc 3, .rc 0] (c 17 [yS 15 a1, yI a3, yR 0 b0]) fun (r0 : G.T × G.Z × Unit) =>
 obL [i6, .rc 0] (c 16 [yI (6 : Int), yR 0 r0.2.1]) fun (r1 : Int × G.Z × Unit) =>
 cnd (decide (r1.1 = (0 : Int))) (obL [.rc 3, .rc 0] (c 18 [yR 0 r1.2.1]) fun (r2 : G.T × G.Z × Unit) =>
 obL [.rc 3] (c 11 [yT ([99, 111, 110, 115, 112] : List UInt8), yS 3 ([r2.1] : List G.T)]) fun (r3 : G.T × Unit) =>
 k2 a9 a11 a10 a1 a3 r2.2.1 r3.1) (cnd (decide (r1.1 = (1 : Int))) (obL [.rc 3, .rc 0] (c 18 [yR 0 r1.2.1]) fun (r4 : G.T × G.Z × Unit) =>
 obL [.rc 2, .rc 0] (c 19 [yI (0 : Int), yR 0 r4.2.1]) fun (r5 : G.O × G.Z × Unit) =>
 obL [.rc 3] (c 20 [yR 2 r5.1]) fun (r6 : G.T × Unit) =>
 obL [.rc 3] (c 11 [yT ([101, 113, 117, 97, 108] : List UInt8), yS 3 ([r4.1, r6.1] : List G.T)]) fun (r7 : G.T × Unit) =>
 k2 a9 a11 a10 a1 a3 r5.2.1 r7.1) (cnd (decide (r1.1 = (2 : Int))) (obL [.rc 3] (c 21 [yI (0 : Int)]) fun (r8 : G.T × Unit) =>
 obL [.rc 3, .rc 0] (c 18 [yR 0 r1.2.1]) fun (r9 : G.T × G.Z × Unit) =>
 obL [.rc 3] (c 11 [yT ([60] : List UInt8), yS 3 ([r8.1, r9.1] : List G.T)]) fun (r10 : G.T × Unit) =>
 k2 a9 a11 a10 a1 a3 r9.2.1 r10.1) (k2 a9 a11 a10 a1 a3 r1.2.1 r0.1)))) (some [yS 3 a9, yR 0 b0])
def V4x1 (n : Nt) : Int → List G.E → Int → Int → List G.T → G.Z → Rt := fun x0 x1 x2 x3 x4 x5 => n [yI x0, yS 15 x1, yI x2, yI x3, yS 3 x4, yR 0 x5]
def X4x1 := V4x1 (xE ii4 e [1, 1, 1, 0, 1, 0, 0] aCX (q4x2 c e))
def B4x2 (c : TC0) (n1 : Int → List G.E → Int → Int → List G.T → G.Z → Rt) (a9 : List G.T) (a11 : Int) (a10 : Int) (a1 : List G.E) (a3 : Int) (b0 : G.Z) (b112 : G.T) : Rt :=
 chk (Nat.ble ((List.length a9 + List.length ([b112] : List G.T)) * 176) 1073741824) <|
 n1 a10 a1 a3 (IntKind.i64.wrap (a11 + (1 : Int))) (a9 ++ ([b112] : List G.T)) b0
def V4x2 (n : Nt) : List G.T → Int → Int → List G.E → Int → G.Z → G.T → Rt := fun x0 x1 x2 x3 x4 x5 x6 => n [yS 3 x0, yI x1, yI x2, yS 15 x3, yI x4, yR 0 x5, yR 3 x6]
def X4x2 (n1 : Nt) := V4x2 (xD ii4 e [1, 1, 1, 0, 1, 0, 0, 1, 0, 0, 1, 1, 0] ct4x2 (q4x5 c e n1))
theorem s4x0 : V4x0 (xF ii4 c e) = B4x0 c (X4x1 c e) := by kernel_rfl
theorem s4x1 (n1 : Nt) : V4x1 (xA ii4 c e [1, 1, 1, 0, 1, 0, 0] aCX (lpK U0 aCX n1 (q4x2 c e))) = B4x1 c (X4x2 c e n1) := by kernel_rfl
theorem s4x2 (n1 : Nt) : V4x2 (xA ii4 c e [1, 1, 1, 0, 1, 0, 0, 1, 0, 0, 1, 1, 0] ct4x2 (q4x5 c e n1)) = B4x2 c (V4x1 n1) := by kernel_rfl
def J4x2 (c : TC0) (L : Nat) (n1 : Int → List G.E → Int → Int → List G.T → G.Z → Rt) : List G.T → Int → Int → List G.E → Int → G.Z → G.T → Rt := B4x2 c n1
theorem j4x2 (n1 : Nt) : X4x2 c (cu c L) n1 = J4x2 c L (V4x1 n1) := by rw [X4x2, bF, s4x2]; rfl
def W4x1 (c : TC0) (L : Nat) : Nat → Int → List G.E → Int → Int → List G.T → G.Z → Rt
 | 0 => fun _ _ _ _ _ _ => none
 | n + 1 => B4x1 c (J4x2 c L (W4x1 c L n))
theorem u4x1 (n : Nat) : V4x1 (xL ii4 c L [1, 1, 1, 0, 1, 0, 0] aCX (q4x2 c (cu c L)) n) = W4x1 c L n := by
 induction n with
 | zero => rfl
 | succ n ih => rw [iU, s4x1]; simp only [j4x2, ih]; rfl
theorem w4x1 : X4x1 c (cu c L) = W4x1 c L L := u4x1 c L L
def F4 (c : TC0) (L : Nat) : List G.E → Int → Int → G.Z → Rt := B4x0 c (W4x1 c L L)
theorem e4 : V4x0 (xF ii4 c (cu c L)) = F4 c L := by rw [s4x0]; simp only [w4x1]; rfl
theorem c4 (a1 : List G.E) (a2 : Int) (a3 : Int) (b0 : G.Z) (L n : Nat) : CTp L (n + 1) 4 [yS 15 a1, yI a2, yI a3, yR 0 b0] = F4 (CTp L n) L a1 a2 a3 b0 := by rw [← e4]; exact cg (x := ii4) (by kernel_rfl) (by kernel_rfl) L n _
def B5x0 (c : TC0) (a1 : List G.E) (a2 : List G.T) (b0 : G.Z) : Rt :=
 obL [zS 3] (c 22 [yS 3 a2]) fun (r0 : List G.T × Unit) =>
 obL [.rc 3, .rc 0] (c 18 [yR 0 b0]) fun (r1 : G.T × G.Z × Unit) =>
 obL [.rc 3, .rc 0] (c 23 [yS 15 a1, yI (2 : Int), yR 0 r1.2.1]) fun (r2 : G.T × G.Z × Unit) =>
 obL [.rc 3, .rc 0] (c 17 [yS 15 a1, yI (1 : Int), yR 0 r2.2.1]) fun (r3 : G.T × G.Z × Unit) =>
 obL [.rc 3] (c 11 [yT ([99, 111, 110, 115, 112] : List UInt8), yS 3 ([r1.1] : List G.T)]) fun (r4 : G.T × Unit) =>
 obL [.rc 3] (c 11 [yT ([105, 110, 116, 101, 103, 101, 114, 112] : List UInt8), yS 3 ([r1.1] : List G.T)]) fun (r5 : G.T × Unit) =>
 obL [.rc 3] (c 11 [yT ([115, 121, 109, 98, 111, 108, 112] : List UInt8), yS 3 ([r1.1] : List G.T)]) fun (r6 : G.T × Unit) =>
 obL [.rc 3] (c 11 [yT ([110, 111, 116] : List UInt8), yS 3 ([r6.1] : List G.T)]) fun (r7 : G.T × Unit) =>
 obL [.rc 3] (c 21 [yI (0 : Int)]) fun (r8 : G.T × Unit) =>
 obL [.rc 3] (c 11 [yT ([101, 113, 117, 97, 108] : List UInt8), yS 3 ([r1.1, r8.1] : List G.T)]) fun (r9 : G.T × Unit) =>
 chk (Nat.ble ((List.length r0.1 + List.length ([r1.1, r2.1, r3.1, r4.1, r5.1, r7.1, r9.1] : List G.T)) * 176) 1073741824) <|
 some [yS 3 (r0.1 ++ ([r1.1, r2.1, r3.1, r4.1, r5.1, r7.1, r9.1] : List G.T)), yR 0 r3.2.1]
def V5x0 (n : Nt) : List G.E → List G.T → G.Z → Rt := fun x0 x1 x2 => n [yS 15 x0, yS 3 x1, yR 0 x2]
theorem s5x0 : V5x0 (xF ii5 c e) = B5x0 c := by kernel_rfl
def F5 (c : TC0) (L : Nat) : List G.E → List G.T → G.Z → Rt := B5x0 c
theorem e5 : V5x0 (xF ii5 c (cu c L)) = F5 c L := s5x0 _ _
theorem c5 (a1 : List G.E) (a2 : List G.T) (b0 : G.Z) (L n : Nat) : CTp L (n + 1) 5 [yS 15 a1, yS 3 a2, yR 0 b0] = F5 (CTp L n) L a1 a2 b0 := by rw [← e5]; exact cg (x := ii5) (by kernel_rfl) (by kernel_rfl) L n _
def q6x0 (c : TC0) (e : Cu) : Kt := xK ii6
def q6x1 (c : TC0) (e : Cu) : Kt := xT ii6 c e [1, 1, 1] (q6x0 c e)
def q6x2 (c : TC0) (e : Cu) : Kt := dW U0 0 (q6x1 c e)
def q6x3 (c : TC0) (e : Cu) (n1 : Nt) : Kt := lpK U0 aCW n1 (q6x2 c e)
def q6x4 (c : TC0) (e : Cu) (n1 : Nt) : Kt := xT ii6 c e [1, 1, 0, 1, 0, 0, 1, 1, 1] (q6x3 c e n1)
def q6x5 (c : TC0) (e : Cu) (n1 : Nt) : Kt := dW U0 1 (q6x4 c e n1)
def q6x6 (c : TC0) (e : Cu) (n1 : Nt) : Kt := xT ii6 c e [1, 1, 0, 1, 0, 0, 1, 1, 0, 0, 1, 1, 1] (q6x5 c e n1)
def B6x0 (c : TC0) (e1 : Int → List G.T → Int → List G.T → G.T → G.O → Rt) (a0 : List G.T) (a1 : G.T) : Rt :=
 cnd (decide (a1.kind = (2 : Int))) (some [yR 2 (G.O.mk (0 : Int) ([] : List UInt8) ([] : List UInt8) (G.Y.mk ([] : List UInt8) ([] : List UInt8)) ([] : List UInt8) ([] : List G.O)), yB false]) (e1 (List.length a0 : Int) a0 (0 : Int) a0 a1 (G.O.mk (0 : Int) ([] : List UInt8) ([] : List UInt8) (G.Y.mk ([] : List UInt8) ([] : List UInt8)) ([] : List UInt8) ([] : List G.O)))
def V6x0 (n : Nt) : List G.T → G.T → Rt := fun x0 x1 => n [yS 3 x0, yR 3 x1]
def B6x1 (c : TC0) (k2 : Int → Int → List G.T → List G.T → G.T → G.O → Rt) (k3 : Bool → Int → Int → List G.T → List G.T → G.T → G.T → G.O → Rt) (a13 : Int) (a12 : List G.T) (a14 : Int) (a0 : List G.T) (b103 : G.T) (b104 : G.O) : Rt :=
 cnd (decide (a14 < a13)) (ob (idx a12 a14) fun v0 =>
 obL [.bool] (c 24 [yR 3 v0, yT ([101, 113, 117, 97, 108] : List UInt8), yI (2 : Int)]) fun (r1 : Bool × Unit) =>
 cnd (!r1.1) (k2 a14 a13 a12 a0 b103 b104) (ob (idx v0.args (0 : Int)) fun v2 =>
 obL [.bool] (c 25 [yR 3 v2, yR 3 b103]) fun (r3 : Bool × Unit) =>
 cnd r3.1 (ob (idx v0.args (1 : Int)) fun v4 =>
 k3 (decide (v4.kind = (2 : Int))) a14 a13 a12 a0 v0 b103 b104) (k3 false a14 a13 a12 a0 v0 b103 b104))) (obL [.rc 3] (c 26 [yR 3 b103]) fun (r5 : G.T × Unit) =>
 obL [.bool] (c 27 [yS 3 a0, yR 3 r5.1]) fun (r6 : Bool × Unit) =>
 cnd r6.1 (obL [.rc 2] (c 28 []) fun (r7 : G.O × Unit) =>
 some [yR 2 r7.1, yB true]) (some [yR 2 (G.O.mk (0 : Int) ([] : List UInt8) ([] : List UInt8) (G.Y.mk ([] : List UInt8) ([] : List UInt8)) ([] : List UInt8) ([] : List G.O)), yB false]))
def V6x1 (n : Nt) : Int → List G.T → Int → List G.T → G.T → G.O → Rt := fun x0 x1 x2 x3 x4 x5 => n [yI x0, yS 3 x1, yI x2, yS 3 x3, yR 3 x4, yR 2 x5]
def X6x1 := V6x1 (xE ii6 e [1, 1, 0, 1, 0, 0] aCW (q6x2 c e))
def B6x2 (c : TC0) (n1 : Int → List G.T → Int → List G.T → G.T → G.O → Rt) (a14 : Int) (a13 : Int) (a12 : List G.T) (a0 : List G.T) (b103 : G.T) (b104 : G.O) : Rt :=
 n1 a13 a12 (IntKind.i64.wrap (a14 + (1 : Int))) a0 b103 b104
def V6x2 (n : Nt) : Int → Int → List G.T → List G.T → G.T → G.O → Rt := fun x0 x1 x2 x3 x4 x5 => n [yI x0, yI x1, yS 3 x2, yS 3 x3, yR 3 x4, yR 2 x5]
def X6x2 (n1 : Nt) := V6x2 (xD ii6 e [1, 1, 0, 1, 0, 0, 1, 1, 1, 0] ct6x2 (q6x3 c e n1))
def B6x3 (c : TC0) (k4 : Bool → Int → Int → List G.T → List G.T → G.T → G.T → G.O → Rt) (a34 : Bool) (a14 : Int) (a13 : Int) (a12 : List G.T) (a0 : List G.T) (b107 : G.T) (b103 : G.T) (b104 : G.O) : Rt :=
 cnd a34 (ob (idx b107.args (1 : Int)) fun v0 =>
 some [yR 2 v0.value, yB true]) (ob (idx b107.args (1 : Int)) fun v1 =>
 obL [.bool] (c 25 [yR 3 v1, yR 3 b103]) fun (r2 : Bool × Unit) =>
 cnd r2.1 (ob (idx b107.args (0 : Int)) fun v3 =>
 k4 (decide (v3.kind = (2 : Int))) a14 a13 a12 a0 b107 b103 b104) (k4 false a14 a13 a12 a0 b107 b103 b104))
def V6x3 (n : Nt) : Bool → Int → Int → List G.T → List G.T → G.T → G.T → G.O → Rt := fun x0 x1 x2 x3 x4 x5 x6 x7 => n [yB x0, yI x1, yI x2, yS 3 x3, yS 3 x4, yR 3 x5, yR 3 x6, yR 2 x7]
def X6x3 (n1 : Nt) := V6x3 (xD ii6 e [1, 1, 0, 1, 0, 0, 1, 1, 0, 0, 1, 1, 0, 1, 0] ct6x3 (q6x6 c e n1))
def B6x4 (c : TC0) (k2 : Int → Int → List G.T → List G.T → G.T → G.O → Rt) (a53 : Bool) (a14 : Int) (a13 : Int) (a12 : List G.T) (a0 : List G.T) (b107 : G.T) (b103 : G.T) (b104 : G.O) : Rt :=
 cnd a53 (ob (idx b107.args (0 : Int)) fun v0 =>
 some [yR 2 v0.value, yB true]) (k2 a14 a13 a12 a0 b103 b104)
def V6x4 (n : Nt) : Bool → Int → Int → List G.T → List G.T → G.T → G.T → G.O → Rt := fun x0 x1 x2 x3 x4 x5 x6 x7 => n [yB x0, yI x1, yI x2, yS 3 x3, yS 3 x4, yR 3 x5, yR 3 x6, yR 2 x7]
def X6x4 (n1 : Nt) := V6x4 (xD ii6 e [1, 1, 0, 1, 0, 0, 1, 1, 0, 0, 1, 1, 1, 1, 0] ct6x4 (q6x5 c e n1))
theorem s6x0 : V6x0 (xF ii6 c e) = B6x0 c (X6x1 c e) := by kernel_rfl
theorem s6x1 (n1 : Nt) : V6x1 (xA ii6 c e [1, 1, 0, 1, 0, 0] aCW (lpK U0 aCW n1 (q6x2 c e))) = B6x1 c (X6x2 c e n1) (X6x3 c e n1) := by kernel_rfl
theorem s6x2 (n1 : Nt) : V6x2 (xA ii6 c e [1, 1, 0, 1, 0, 0, 1, 1, 1, 0] ct6x2 (q6x3 c e n1)) = B6x2 c (V6x1 n1) := by kernel_rfl
theorem s6x3 (n1 : Nt) : V6x3 (xA ii6 c e [1, 1, 0, 1, 0, 0, 1, 1, 0, 0, 1, 1, 0, 1, 0] ct6x3 (q6x6 c e n1)) = B6x3 c (X6x4 c e n1) := by kernel_rfl
theorem s6x4 (n1 : Nt) : V6x4 (xA ii6 c e [1, 1, 0, 1, 0, 0, 1, 1, 0, 0, 1, 1, 1, 1, 0] ct6x4 (q6x5 c e n1)) = B6x4 c (X6x2 c e n1) := by kernel_rfl
def J6x2 (c : TC0) (L : Nat) (n1 : Int → List G.T → Int → List G.T → G.T → G.O → Rt) : Int → Int → List G.T → List G.T → G.T → G.O → Rt := B6x2 c n1
theorem j6x2 (n1 : Nt) : X6x2 c (cu c L) n1 = J6x2 c L (V6x1 n1) := by rw [X6x2, bF, s6x2]; rfl
def J6x4 (c : TC0) (L : Nat) (n1 : Int → List G.T → Int → List G.T → G.T → G.O → Rt) : Bool → Int → Int → List G.T → List G.T → G.T → G.T → G.O → Rt := B6x4 c (J6x2 c L n1)
theorem j6x4 (n1 : Nt) : X6x4 c (cu c L) n1 = J6x4 c L (V6x1 n1) := by rw [X6x4, bF, s6x4]; simp only [j6x2]; rfl
def J6x3 (c : TC0) (L : Nat) (n1 : Int → List G.T → Int → List G.T → G.T → G.O → Rt) : Bool → Int → Int → List G.T → List G.T → G.T → G.T → G.O → Rt := B6x3 c (J6x4 c L n1)
theorem j6x3 (n1 : Nt) : X6x3 c (cu c L) n1 = J6x3 c L (V6x1 n1) := by rw [X6x3, bF, s6x3]; simp only [j6x4]; rfl
def W6x1 (c : TC0) (L : Nat) : Nat → Int → List G.T → Int → List G.T → G.T → G.O → Rt
 | 0 => fun _ _ _ _ _ _ => none
 | n + 1 => B6x1 c (J6x2 c L (W6x1 c L n)) (J6x3 c L (W6x1 c L n))
theorem u6x1 (n : Nat) : V6x1 (xL ii6 c L [1, 1, 0, 1, 0, 0] aCW (q6x2 c (cu c L)) n) = W6x1 c L n := by
 induction n with
 | zero => rfl
 | succ n ih => rw [iU, s6x1]; simp only [j6x2, j6x3, ih]; rfl
theorem w6x1 : X6x1 c (cu c L) = W6x1 c L L := u6x1 c L L
def F6 (c : TC0) (L : Nat) : List G.T → G.T → Rt := B6x0 c (W6x1 c L L)
theorem e6 : V6x0 (xF ii6 c (cu c L)) = F6 c L := by rw [s6x0]; simp only [w6x1]; rfl
theorem c6 (a0 : List G.T) (a1 : G.T) (L n : Nat) : CTp L (n + 1) 6 [yS 3 a0, yR 3 a1] = F6 (CTp L n) L a0 a1 := by rw [← e6]; exact cg (x := ii6) (by kernel_rfl) (by kernel_rfl) L n _
def q7x0 (c : TC0) (e : Cu) : Kt := xK ii7
def q7x1 (c : TC0) (e : Cu) : Kt := xT ii7 c e [1, 1, 1] (q7x0 c e)
def q7x2 (c : TC0) (e : Cu) : Kt := dW U0 0 (q7x1 c e)
def q7x3 (c : TC0) (e : Cu) (n1 : Nt) : Kt := lpK U0 aCV n1 (q7x2 c e)
def q7x4 (c : TC0) (e : Cu) (n1 : Nt) : Kt := xT ii7 c e [1, 1, 0, 1, 0, 0, 1, 1] (q7x3 c e n1)
def q7x5 (c : TC0) (e : Cu) (n1 : Nt) : Kt := dW U0 1 (q7x4 c e n1)
def q7x6 (c : TC0) (e : Cu) (n1 : Nt) : Kt := xT ii7 c e [1, 1, 0, 1, 0, 0, 1, 0, 0, 1, 1, 1] (q7x5 c e n1)
def B7x0 (c : TC0) (e1 : Int → List G.T → G.T → G.O → Rt) (a0 : List G.T) (a1 : G.T) : Rt :=
 cnd (decide (a1.kind = (2 : Int))) (some [yR 2 (G.O.mk (0 : Int) ([] : List UInt8) ([] : List UInt8) (G.Y.mk ([] : List UInt8) ([] : List UInt8)) ([] : List UInt8) ([] : List G.O)), yB false]) (e1 (0 : Int) a0 a1 (G.O.mk (0 : Int) ([] : List UInt8) ([] : List UInt8) (G.Y.mk ([] : List UInt8) ([] : List UInt8)) ([] : List UInt8) ([] : List G.O)))
def V7x0 (n : Nt) : List G.T → G.T → Rt := fun x0 x1 => n [yS 3 x0, yR 3 x1]
def B7x1 (c : TC0) (k2 : Int → List G.T → G.T → G.O → Rt) (k3 : Bool → Int → List G.T → G.T → G.T → G.O → Rt) (a6 : Int) (a0 : List G.T) (b103 : G.T) (b104 : G.O) : Rt :=
 cnd (decide (a6 < (List.length a0 : Int))) (ob (idx a0 a6) fun v0 =>
 obL [.bool] (c 29 [yR 3 v0, yT ([101, 113, 117, 97, 108] : List UInt8), yI (2 : Int)]) fun (r1 : Bool × Unit) =>
 cnd (!r1.1) (k2 a6 a0 b103 b104) (ob (idx v0.args (1 : Int)) fun v2 =>
 cnd (decide (v2.kind = (2 : Int))) (ob (idx v0.args (0 : Int)) fun v3 =>
 obL [.bool] (c 30 [yR 3 v3, yR 3 b103]) fun (r4 : Bool × Unit) =>
 k3 r4.1 a6 a0 v0 b103 b104) (k3 false a6 a0 v0 b103 b104))) (obL [.rc 3] (c 31 [yR 3 b103]) fun (r5 : G.T × Unit) =>
 obL [.bool] (c 32 [yS 3 a0, yR 3 r5.1]) fun (r6 : Bool × Unit) =>
 cnd r6.1 (obL [.rc 2] (c 33 []) fun (r7 : G.O × Unit) =>
 some [yR 2 r7.1, yB true]) (some [yR 2 (G.O.mk (0 : Int) ([] : List UInt8) ([] : List UInt8) (G.Y.mk ([] : List UInt8) ([] : List UInt8)) ([] : List UInt8) ([] : List G.O)), yB false]))
def V7x1 (n : Nt) : Int → List G.T → G.T → G.O → Rt := fun x0 x1 x2 x3 => n [yI x0, yS 3 x1, yR 3 x2, yR 2 x3]
def X7x1 := V7x1 (xE ii7 e [1, 1, 0, 1, 0, 0] aCV (q7x2 c e))
def B7x2 (c : TC0) (n1 : Int → List G.T → G.T → G.O → Rt) (a6 : Int) (a0 : List G.T) (b103 : G.T) (b104 : G.O) : Rt :=
 n1 (IntKind.i64.wrap (a6 + (1 : Int))) a0 b103 b104
def V7x2 (n : Nt) : Int → List G.T → G.T → G.O → Rt := fun x0 x1 x2 x3 => n [yI x0, yS 3 x1, yR 3 x2, yR 2 x3]
def X7x2 (n1 : Nt) := V7x2 (xD ii7 e [1, 1, 0, 1, 0, 0, 1, 1, 0] ct7x2 (q7x3 c e n1))
def B7x3 (c : TC0) (k4 : Bool → Int → List G.T → G.T → G.T → G.O → Rt) (a38 : Bool) (a6 : Int) (a0 : List G.T) (b107 : G.T) (b103 : G.T) (b104 : G.O) : Rt :=
 cnd a38 (ob (idx b107.args (1 : Int)) fun v0 =>
 some [yR 2 v0.value, yB true]) (ob (idx b107.args (0 : Int)) fun v1 =>
 cnd (decide (v1.kind = (2 : Int))) (ob (idx b107.args (1 : Int)) fun v2 =>
 obL [.bool] (c 30 [yR 3 v2, yR 3 b103]) fun (r3 : Bool × Unit) =>
 k4 r3.1 a6 a0 b107 b103 b104) (k4 false a6 a0 b107 b103 b104))
def V7x3 (n : Nt) : Bool → Int → List G.T → G.T → G.T → G.O → Rt := fun x0 x1 x2 x3 x4 x5 => n [yB x0, yI x1, yS 3 x2, yR 3 x3, yR 3 x4, yR 2 x5]
def X7x3 (n1 : Nt) := V7x3 (xD ii7 e [1, 1, 0, 1, 0, 0, 1, 0, 0, 1, 1, 0, 1, 0] ct7x3 (q7x6 c e n1))
def B7x4 (c : TC0) (k2 : Int → List G.T → G.T → G.O → Rt) (a57 : Bool) (a6 : Int) (a0 : List G.T) (b107 : G.T) (b103 : G.T) (b104 : G.O) : Rt :=
 cnd a57 (ob (idx b107.args (0 : Int)) fun v0 =>
 some [yR 2 v0.value, yB true]) (k2 a6 a0 b103 b104)
def V7x4 (n : Nt) : Bool → Int → List G.T → G.T → G.T → G.O → Rt := fun x0 x1 x2 x3 x4 x5 => n [yB x0, yI x1, yS 3 x2, yR 3 x3, yR 3 x4, yR 2 x5]
def X7x4 (n1 : Nt) := V7x4 (xD ii7 e [1, 1, 0, 1, 0, 0, 1, 0, 0, 1, 1, 1, 1, 0] ct7x4 (q7x5 c e n1))
theorem s7x0 : V7x0 (xF ii7 c e) = B7x0 c (X7x1 c e) := by kernel_rfl
theorem s7x1 (n1 : Nt) : V7x1 (xA ii7 c e [1, 1, 0, 1, 0, 0] aCV (lpK U0 aCV n1 (q7x2 c e))) = B7x1 c (X7x2 c e n1) (X7x3 c e n1) := by kernel_rfl
theorem s7x2 (n1 : Nt) : V7x2 (xA ii7 c e [1, 1, 0, 1, 0, 0, 1, 1, 0] ct7x2 (q7x3 c e n1)) = B7x2 c (V7x1 n1) := by kernel_rfl
theorem s7x3 (n1 : Nt) : V7x3 (xA ii7 c e [1, 1, 0, 1, 0, 0, 1, 0, 0, 1, 1, 0, 1, 0] ct7x3 (q7x6 c e n1)) = B7x3 c (X7x4 c e n1) := by kernel_rfl
theorem s7x4 (n1 : Nt) : V7x4 (xA ii7 c e [1, 1, 0, 1, 0, 0, 1, 0, 0, 1, 1, 1, 1, 0] ct7x4 (q7x5 c e n1)) = B7x4 c (X7x2 c e n1) := by kernel_rfl
def J7x2 (c : TC0) (L : Nat) (n1 : Int → List G.T → G.T → G.O → Rt) : Int → List G.T → G.T → G.O → Rt := B7x2 c n1
theorem j7x2 (n1 : Nt) : X7x2 c (cu c L) n1 = J7x2 c L (V7x1 n1) := by rw [X7x2, bF, s7x2]; rfl
def J7x4 (c : TC0) (L : Nat) (n1 : Int → List G.T → G.T → G.O → Rt) : Bool → Int → List G.T → G.T → G.T → G.O → Rt := B7x4 c (J7x2 c L n1)
theorem j7x4 (n1 : Nt) : X7x4 c (cu c L) n1 = J7x4 c L (V7x1 n1) := by rw [X7x4, bF, s7x4]; simp only [j7x2]; rfl
def J7x3 (c : TC0) (L : Nat) (n1 : Int → List G.T → G.T → G.O → Rt) : Bool → Int → List G.T → G.T → G.T → G.O → Rt := B7x3 c (J7x4 c L n1)
theorem j7x3 (n1 : Nt) : X7x3 c (cu c L) n1 = J7x3 c L (V7x1 n1) := by rw [X7x3, bF, s7x3]; simp only [j7x4]; rfl
def W7x1 (c : TC0) (L : Nat) : Nat → Int → List G.T → G.T → G.O → Rt
 | 0 => fun _ _ _ _ => none
 | n + 1 => B7x1 c (J7x2 c L (W7x1 c L n)) (J7x3 c L (W7x1 c L n))
theorem u7x1 (n : Nat) : V7x1 (xL ii7 c L [1, 1, 0, 1, 0, 0] aCV (q7x2 c (cu c L)) n) = W7x1 c L n := by
 induction n with
 | zero => rfl
 | succ n ih => rw [iU, s7x1]; simp only [j7x2, j7x3, ih]; rfl
theorem w7x1 : X7x1 c (cu c L) = W7x1 c L L := u7x1 c L L
def F7 (c : TC0) (L : Nat) : List G.T → G.T → Rt := B7x0 c (W7x1 c L L)
theorem e7 : V7x0 (xF ii7 c (cu c L)) = F7 c L := by rw [s7x0]; simp only [w7x1]; rfl
theorem c7 (a0 : List G.T) (a1 : G.T) (L n : Nat) : CTp L (n + 1) 7 [yS 3 a0, yR 3 a1] = F7 (CTp L n) L a0 a1 := by rw [← e7]; exact cg (x := ii7) (by kernel_rfl) (by kernel_rfl) L n _
def q8x0 (c : TC0) (e : Cu) : Kt := xK ii8
def q8x1 (c : TC0) (e : Cu) : Kt := xT ii8 c e [1, 1] (q8x0 c e)
def q8x2 (c : TC0) (e : Cu) : Kt := xT ii8 c e [1, 1, 1] (q8x0 c e)
def q8x3 (c : TC0) (e : Cu) : Kt := dW U0 0 (q8x2 c e)
def B8x0 (c : TC0) (k1 : Bool → G.O → G.O → Rt) (a0 : G.O) (a1 : G.O) : Rt :=
 cnd (!decide (a0.kind = a1.kind)) (k1 true a0 a1) (cnd (!decide (a0.num = a1.num)) (k1 true a0 a1) (cnd (!decide (a0.den = a1.den)) (k1 true a0 a1) (cnd (!decide (a0.sym = a1.sym)) (k1 true a0 a1) (cnd (!decide (a0.text = a1.text)) (k1 true a0 a1) (k1 (!decide ((List.length a0.pair : Int) = (List.length a1.pair : Int))) a0 a1)))))
def V8x0 (n : Nt) : G.O → G.O → Rt := fun x0 x1 => n [yR 2 x0, yR 2 x1]
def B8x1 (c : TC0) (e2 : Int → G.O → G.O → Rt) (a47 : Bool) (b102 : G.O) (b103 : G.O) : Rt :=
 cnd a47 (some [yB false]) (e2 (0 : Int) b102 b103)
def V8x1 (n : Nt) : Bool → G.O → G.O → Rt := fun x0 x1 x2 => n [yB x0, yR 2 x1, yR 2 x2]
def X8x1 := V8x1 (xD ii8 e [1, 0, 1, 0] ct8x1 (q8x1 c e))
def B8x2 (c : TC0) (n2 : Int → G.O → G.O → Rt) (a5 : Int) (b102 : G.O) (b103 : G.O) : Rt :=
 cnd (decide (a5 < (List.length b102.pair : Int))) (ob (idx b102.pair a5) fun v0 =>
 ob (idx b103.pair a5) fun v1 =>
 obL [.bool] (c 8 [yR 2 v0, yR 2 v1]) fun (r2 : Bool × Unit) =>
 cnd (!r2.1) (some [yB false]) (n2 (IntKind.i64.wrap (a5 + (1 : Int))) b102 b103)) (some [yB true])
def V8x2 (n : Nt) : Int → G.O → G.O → Rt := fun x0 x1 x2 => n [yI x0, yR 2 x1, yR 2 x2]
def X8x2 := V8x2 (xE ii8 e [1, 1, 0, 1, 0, 0] aFl (q8x3 c e))
theorem s8x0 : V8x0 (xF ii8 c e) = B8x0 c (X8x1 c e) := by kernel_rfl
theorem s8x1 : V8x1 (xA ii8 c e [1, 0, 1, 0] ct8x1 (q8x1 c e)) = B8x1 c (X8x2 c e) := by kernel_rfl
theorem s8x2 (n2 : Nt) : V8x2 (xA ii8 c e [1, 1, 0, 1, 0, 0] aFl (lpK U0 aFl n2 (q8x3 c e))) = B8x2 c (V8x2 n2) := by kernel_rfl
def W8x2 (c : TC0) (L : Nat) : Nat → Int → G.O → G.O → Rt
 | 0 => fun _ _ _ => none
 | n + 1 => B8x2 c (W8x2 c L n)
theorem u8x2 (n : Nat) : V8x2 (xL ii8 c L [1, 1, 0, 1, 0, 0] aFl (q8x3 c (cu c L)) n) = W8x2 c L n := by
 induction n with
 | zero => rfl
 | succ n ih => rw [iU, s8x2]; simp only [ih]; rfl
theorem w8x2 : X8x2 c (cu c L) = W8x2 c L L := u8x2 c L L
def J8x1 (c : TC0) (L : Nat) : Bool → G.O → G.O → Rt := B8x1 c (W8x2 c L L)
theorem j8x1 : X8x1 c (cu c L) = J8x1 c L := by rw [X8x1, bF, s8x1]; simp only [w8x2]; rfl
def F8 (c : TC0) (L : Nat) : G.O → G.O → Rt := B8x0 c (J8x1 c L)
theorem e8 : V8x0 (xF ii8 c (cu c L)) = F8 c L := by rw [s8x0]; simp only [j8x1]; rfl
theorem c8 (a0 : G.O) (a1 : G.O) (L n : Nat) : CTp L (n + 1) 8 [yR 2 a0, yR 2 a1] = F8 (CTp L n) L a0 a1 := by rw [← e8]; exact cg (x := ii8) (by kernel_rfl) (by kernel_rfl) L n _
end
end Go.TV
namespace Go.TV
open Go.AI Go.PI Go.Proofs
theorem aEF {P : G.O → Prop} (h : ∀ k n d s t l, (∀ o ∈ l, P o) → P ⟨k, n, d, s, t, l⟩) : ∀ o, P o := fun o =>
 G.O.rec (motive_1 := P) (motive_2 := fun l => ∀ o ∈ l, P o) (fun k n d s t l ih => h k n d s t l ih) (fun o ho => by cases ho)
  (fun o l h1 h2 x hx => by
   cases hx with
   | head => exact h1
   | tail _ hx => exact h2 x hx) o
noncomputable instance : DecidableEq G.O := fun a b => Classical.propDecidable _
mutual
def osz : G.O → Nat
 | ⟨_, _, _, _, _, l⟩ => 2 + pI l
def pI : List G.O → Nat
 | [] => 0
 | o :: l => osz o + pI l + 1
end
theorem eI {k : Nat} (h : k < 4000000000000000000) : IntKind.i64.wrap ((k : Int) + 1) = ((k + 1 : Nat) : Int) := by
 unfold IntKind.wrap
 simp [IntKind.bits, IntKind.signed]
 omega
theorem aN {α : Type} (l : List α) (k : Nat) : idx l (k : Int) = l[k]? := by
 unfold idx
 have : decide (0 ≤ (k : Int)) = true := by simp
 rw [this]; rfl
theorem dZ {β : Type} {b : Bool} {K : Bool × Unit → Option β} : obL (D := U0.D) [.bool] (some [yB b]) K = K (b, ()) := rfl
theorem dR {α β : Type} {x : α} {K : α → Option β} : ob (some x) K = K x := rfl
theorem aK {β : Type} {A B : Option β} : cnd true A B = A := rfl
theorem aI {β : Type} {A B : Option β} : cnd false A B = B := rfl
theorem bC {α : Type} {l : List α} {k : Nat} {x : α} {r : List α} (h : l.drop k = x :: r) : l[k]? = some x ∧ k < l.length ∧ l.drop (k + 1) = r := by
 refine ⟨?_, ?_, ?_⟩
 ·rw [← List.head?_drop, h]; rfl
 ·have := congrArg List.length h; simp at this; omega
 ·rw [← List.tail_drop, h]; rfl
theorem bD {α : Type} {l : List α} {k : Nat} (h : l.drop k = []) : ¬ k < l.length := by
 have := congrArg List.length h; simp at this; omega
def oo (a b : G.O) : TVs := [yR 2 a, yR 2 b]
def bb (b : Bool) : TVs := [yB b]
theorem EqO_loop {c : TC0} {L : Nat} {a b : G.O} (hl : a.pair.length = b.pair.length) (hb : a.pair.length < 1000000000) : ∀ (l r : List G.O) (k m : Nat), a.pair.drop k = l → b.pair.drop k = r → l.length < m →
    (∀ x, x ∈ l → ∀ y, c 8 (oo x y) = some (bb (decide (x = y)))) → W8x2 c L m (k : Int) a b = some (bb (decide (l = r))) := by
 intro l
 induction l with
 | nil =>
  intro r k m h1 h2 h3 _
  obtain ⟨m, rfl⟩ : ∃ m', m = m' + 1 := ⟨m - 1, by simp at h3; omega⟩
  have e1 := bD h1
  have e2 : r = [] := by rw [← h2]; exact List.drop_eq_nil_of_le (by omega)
  have e3 : decide ((k : Int) < (a.pair.length : Int)) = false := by simp; omega
  rw [W8x2, B8x2, e3, e2]
  simp only [aI, decide_true]; rfl
 | cons x l ih =>
  intro r k m h1 h2 h3 hc
  obtain ⟨m, rfl⟩ : ∃ m', m = m' + 1 := ⟨m - 1, by simp at h3; omega⟩
  obtain ⟨a1, a2, a3⟩ := bC h1
  cases r with
  | nil => have := bD h2; omega
  | cons y r =>
   obtain ⟨b1, b2, b3⟩ := bC h2
   have e3 : decide ((k : Int) < (a.pair.length : Int)) = true := by simp; omega
   have hxy : c 8 [yR 2 x, yR 2 y] = some [yB (decide (x = y))] := hc x (mhE ..) y
   rw [W8x2, B8x2, e3, aK, aN, aN, a1, b1, dR, dR, hxy, dZ, eI (by omega)]
   by_cases e : x = y
   ·subst e
    simp only [decide_true, bnT, aI]
    rw [ih r (k + 1) m a3 b3 (by simp at h3; omega) fun z hz => hc z (mtE _ hz)]
    simp
   ·simp only [e, decide_false, Bool.not_false, aK]
    simp [e, bb]
def wfO (a : G.O) : Prop := osz a < 1000000000
theorem zD : ∀ (l : List G.O), l.length ≤ pI l
 | [] => nlR _
 | o :: l => by have := zD l; simp only [lcS, pI]; omega
theorem fB : ∀ {l : List G.O} {x : G.O}, x ∈ l → osz x ≤ pI l
 | o :: l, x, h => by
  simp only [pI]
  cases h with
  | head => omega
  | tail _ h => have := fB h; omega
theorem aCn : ∀ (a : G.O), wfO a → ∀ (b : G.O) (L n : Nat), osz a ≤ L → osz a ≤ n → CTp L n 8 (oo a b) = some (bb (decide (a = b))) := by
 intro a
 induction a using aEF with
 | h k nu d s t l ih =>
  intro hw b L n hL hn
  simp only [wfO, osz] at hw hL hn
  have hlen := zD l
  obtain ⟨n, rfl⟩ : ∃ n', n = n' + 1 := ⟨n - 1, by omega⟩
  cases b with | mk k' nu' d' s' t' l' =>
  show CTp L (n + 1) 8 [yR 2 _, yR 2 _] = _
  rw [c8]
  simp only [F8, B8x0, J8x1, B8x1, G.O.kind, G.O.num, G.O.den, G.O.sym, G.O.text, G.O.pair, G.O.mk.injEq]
  by_cases e1 : k = k'
  ·by_cases e2 : nu = nu'
   ·by_cases e3 : d = d'
    ·by_cases e4 : s = s'
     ·by_cases e5 : t = t'
      ·by_cases e6 : (l.length : Int) = (l'.length : Int)
       ·simp only [e1, e2, e3, e4, e5, e6, decide_true, bnT, aI, true_and]
        have := EqO_loop (c := CTp L n) (L := L) (a := ⟨k, nu, d, s, t, l⟩) (b := ⟨k', nu', d', s', t', l'⟩) (by show l.length = l'.length; omega) (by show l.length < _; omega) l l' 0 L rfl rfl (by omega) fun x hx y => ih x hx (by have := fB hx; simp only [wfO]; omega) y L n (by have := fB hx; omega) (by have := fB hx; omega)
        subst e1 e2 e3 e4 e5
        exact this
       ·have e7 : ¬ l = l' := fun h => e6 (by rw [h])
        simp [e1, e2, e3, e4, e5, e6, e7, cnd, bb]
      ·simp [e1, e2, e3, e4, e5, cnd, bb]
     ·simp [e1, e2, e3, e4, cnd, bb]
    ·simp [e1, e2, e3, cnd, bb]
   ·simp [e1, e2, cnd, bb]
  ·simp [e1, cnd, bb]
end Go.TV
namespace Go.TV
open Go.AI Go.PI Go.Proofs
set_option maxRecDepth 20000
noncomputable section
variable (c : TC0) (e : Cu) (L : Nat)
def q12x0 (c : TC0) (e : Cu) : Kt := xK ii12
def q12x1 (c : TC0) (e : Cu) : Kt := xT ii12 c e [1, 1, 1, 1] (q12x0 c e)
def q12x2 (c : TC0) (e : Cu) : Kt := dW U0 0 (q12x1 c e)
def B12x0 (c : TC0) (e1 : List G.O → Int → List G.E → Rt) : Rt :=
 obL [zS 2] (c 36 []) fun (r0 : List G.O × Unit) =>
 e1 r0.1 (0 : Int) ([] : List G.E)
def V12x0 (n : Nt) : Rt := n []
def aDk (c : TC0) (n1 : List G.O → Int → List G.E → Rt) (a2 : List G.O) (a3 : Int) (a1 : List G.E) : Rt :=
 cnd (decide (a3 < (List.length a2 : Int))) (ob (idx a2 a3) fun v0 =>
 obL [.rc 15] (c 37 [yS 15 a1, yR 2 v0]) fun (r1 : G.E × Unit) =>
 chk (Nat.ble ((List.length a1 + List.length ([r1.1] : List G.E)) * 568) 1073741824) <|
 n1 a2 (IntKind.i64.wrap (a3 + (1 : Int))) (a1 ++ ([r1.1] : List G.E))) (obL [.rc 1] (c 38 [yT ([117, 115, 101, 114, 45, 112, 97, 99, 107, 97, 103, 101] : List UInt8)]) fun (r2 : G.Y × Unit) =>
 obL [zS 1] (c 39 []) fun (r3 : List G.Y × Unit) =>
 chk (Nat.ble ((List.length a1 + List.length ([(G.E.mk (1 : Int) r2.1 (G.A.mk ([117, 115, 101, 114] : List UInt8) r3.1) (G.M.mk (G.Y.mk ([] : List UInt8) ([] : List UInt8)) ([] : List G.Y) false (G.T.mk (0 : Int) (G.Y.mk ([] : List UInt8) ([] : List UInt8)) (G.O.mk (0 : Int) ([] : List UInt8) ([] : List UInt8) (G.Y.mk ([] : List UInt8) ([] : List UInt8)) ([] : List UInt8) ([] : List G.O)) ([] : List G.T))) ([] : List G.F) ([] : List G.T) ([] : List (List G.N)) ([] : List G.E) (G.B.mk (G.Y.mk ([] : List UInt8) ([] : List UInt8)) ([] : List G.D)) ([] : List G.U) ([] : List G.Y) ([] : List G.Y) ([] : List UInt8) (0 : Int))] : List G.E)) * 568) 1073741824) <|
 some [yS 15 (a1 ++ ([(G.E.mk (1 : Int) r2.1 (G.A.mk ([117, 115, 101, 114] : List UInt8) r3.1) (G.M.mk (G.Y.mk ([] : List UInt8) ([] : List UInt8)) ([] : List G.Y) false (G.T.mk (0 : Int) (G.Y.mk ([] : List UInt8) ([] : List UInt8)) (G.O.mk (0 : Int) ([] : List UInt8) ([] : List UInt8) (G.Y.mk ([] : List UInt8) ([] : List UInt8)) ([] : List UInt8) ([] : List G.O)) ([] : List G.T))) ([] : List G.F) ([] : List G.T) ([] : List (List G.N)) ([] : List G.E) (G.B.mk (G.Y.mk ([] : List UInt8) ([] : List UInt8)) ([] : List G.D)) ([] : List G.U) ([] : List G.Y) ([] : List G.Y) ([] : List UInt8) (0 : Int))] : List G.E))])
def V12x1 (n : Nt) : List G.O → Int → List G.E → Rt := fun x0 x1 x2 => n [yS 2 x0, yI x1, yS 15 x2]
def X12x1 := V12x1 (xE ii12 e [1, 1, 1, 0, 1, 0, 0] wW (q12x2 c e))
theorem s12x0 : V12x0 (xF ii12 c e) = B12x0 c (X12x1 c e) := by kernel_rfl
theorem s12x1 (n1 : Nt) : V12x1 (xA ii12 c e [1, 1, 1, 0, 1, 0, 0] wW (lpK U0 wW n1 (q12x2 c e))) = aDk c (V12x1 n1) := by kernel_rfl
def oH (c : TC0) (L : Nat) : Nat → List G.O → Int → List G.E → Rt
 | 0 => fun _ _ _ => none
 | n + 1 => aDk c (oH c L n)
theorem u12x1 (n : Nat) : V12x1 (xL ii12 c L [1, 1, 1, 0, 1, 0, 0] wW (q12x2 c (cu c L)) n) = oH c L n := by
 induction n with
 | zero => rfl
 | succ n ih => rw [iU, s12x1]; simp only [ih]; rfl
theorem w12x1 : X12x1 c (cu c L) = oH c L L := u12x1 c L L
def F12 (c : TC0) (L : Nat) : Rt := B12x0 c (oH c L L)
theorem e12 : V12x0 (xF ii12 c (cu c L)) = F12 c L := by rw [s12x0]; simp only [w12x1]; rfl
theorem c12 (L n : Nat) : CTp L (n + 1) 12 [] = F12 (CTp L n) L := by rw [← e12]; exact cg (x := ii12) (by kernel_rfl) (by kernel_rfl) L n _
def q16x0 (c : TC0) (e : Cu) : Kt := xK ii16
def q16x1 (c : TC0) (e : Cu) : Kt := xT ii16 c e [1, 1] (q16x0 c e)
def B16x0 (c : TC0) (k1 : Bool → Int → G.Z → Rt) (a1 : Int) (b0 : G.Z) : Rt :=
 cnd (decide ((List.length b0.b : Int) ≤ b0.pos)) (k1 true a1 b0) (k1 (decide (a1 < (1 : Int))) a1 b0)
def V16x0 (n : Nt) : Int → G.Z → Rt := fun x0 x1 => n [yI x0, yR 0 x1]
def B16x1 (c : TC0) (a18 : Bool) (a1 : Int) (b0 : G.Z) : Rt :=
 cnd a18 (some [yI (0 : Int), yR 0 b0]) (ob (idx b0.b (IntKind.i64.wrap ((IntKind.i64.wrap (b0.pos + (1 : Int))) - (1 : Int)))) fun v0 =>
 chk (!decide (a1 = 0)) <|
 some [yI (Int.tmod (IntKind.i64.wrap v0) a1), yR 0 (G.Z.mk b0.b (IntKind.i64.wrap (b0.pos + (1 : Int))))])
def V16x1 (n : Nt) : Bool → Int → G.Z → Rt := fun x0 x1 x2 => n [yB x0, yI x1, yR 0 x2]
def X16x1 := V16x1 (xD ii16 e [1, 0, 1, 0] aFH (q16x1 c e))
theorem s16x0 : V16x0 (xF ii16 c e) = B16x0 c (X16x1 c e) := by kernel_rfl
theorem s16x1 : V16x1 (xA ii16 c e [1, 0, 1, 0] aFH (q16x1 c e)) = B16x1 c := by kernel_rfl
def J16x1 (c : TC0) (L : Nat) : Bool → Int → G.Z → Rt := B16x1 c
theorem j16x1 : X16x1 c (cu c L) = J16x1 c L := by rw [X16x1, bF, s16x1]; rfl
def F16 (c : TC0) (L : Nat) : Int → G.Z → Rt := B16x0 c (J16x1 c L)
theorem e16 : V16x0 (xF ii16 c (cu c L)) = F16 c L := by rw [s16x0]; simp only [j16x1]; rfl
theorem c16 (a1 : Int) (b0 : G.Z) (L n : Nat) : CTp L (n + 1) 16 [yI a1, yR 0 b0] = F16 (CTp L n) L a1 b0 := by rw [← e16]; exact cg (x := ii16) (by kernel_rfl) (by kernel_rfl) L n _
def q17x0 (c : TC0) (e : Cu) : Kt := xK ii17
def q17x1 (c : TC0) (e : Cu) : Kt := xT ii17 c e [1, 1, 1] (q17x0 c e)
def q17x2 (c : TC0) (e : Cu) : Kt := dW U0 0 (q17x1 c e)
def B17x0 (c : TC0) (k1 : Bool → Int → List G.E → Int → G.Z → G.T → G.T → Rt) (a1 : List G.E) (a2 : Int) (b0 : G.Z) : Rt :=
 obL [.rc 3, .rc 0] (c 23 [yS 15 a1, yI a2, yR 0 b0]) fun (r0 : G.T × G.Z × Unit) =>
 obL [i6, .rc 0] (c 16 [yI (8 : Int), yR 0 r0.2.1]) fun (r1 : Int × G.Z × Unit) =>
 cnd (decide (r1.1 = (0 : Int))) (k1 (decide (r1.1 = (0 : Int))) r1.1 a1 a2 r1.2.1 r0.1 (G.T.mk (0 : Int) (G.Y.mk ([] : List UInt8) ([] : List UInt8)) (G.O.mk (0 : Int) ([] : List UInt8) ([] : List UInt8) (G.Y.mk ([] : List UInt8) ([] : List UInt8)) ([] : List UInt8) ([] : List G.O)) ([] : List G.T))) (k1 (decide (r1.1 = (1 : Int))) r1.1 a1 a2 r1.2.1 r0.1 (G.T.mk (0 : Int) (G.Y.mk ([] : List UInt8) ([] : List UInt8)) (G.O.mk (0 : Int) ([] : List UInt8) ([] : List UInt8) (G.Y.mk ([] : List UInt8) ([] : List UInt8)) ([] : List UInt8) ([] : List G.O)) ([] : List G.T)))
def V17x0 (n : Nt) : List G.E → Int → G.Z → Rt := fun x0 x1 x2 => n [yS 15 x0, yI x1, yR 0 x2]
def B17x1 (c : TC0) (a14 : Bool) (a13 : Int) (a1 : List G.E) (a2 : Int) (b0 : G.Z) (b107 : G.T) (b106 : G.T) : Rt :=
 cnd a14 (obL [.rc 3] (c 11 [yT ([110, 111, 116] : List UInt8), yS 3 ([b107] : List G.T)]) fun (r0 : G.T × Unit) =>
 some [yR 3 r0.1, yR 0 b0]) (cnd (decide (a13 = (2 : Int))) (obL [.rc 3, .rc 0] (c 23 [yS 15 a1, yI (IntKind.i64.wrap (a2 - (1 : Int))), yR 0 b0]) fun (r1 : G.T × G.Z × Unit) =>
 obL [.rc 3] (c 11 [yT ([101, 113, 117, 97, 108] : List UInt8), yS 3 ([b107, r1.1] : List G.T)]) fun (r2 : G.T × Unit) =>
 obL [.rc 3] (c 11 [yT ([110, 111, 116] : List UInt8), yS 3 ([r2.1] : List G.T)]) fun (r3 : G.T × Unit) =>
 some [yR 3 r3.1, yR 0 r1.2.1]) (cnd (decide (a13 = (3 : Int))) (obL [.rc 3, .rc 0] (c 18 [yR 0 b0]) fun (r4 : G.T × G.Z × Unit) =>
 obL [.rc 3] (c 11 [yT ([99, 111, 110, 115, 112] : List UInt8), yS 3 ([r4.1] : List G.T)]) fun (r5 : G.T × Unit) =>
 obL [.rc 3] (c 11 [yT ([110, 111, 116] : List UInt8), yS 3 ([r5.1] : List G.T)]) fun (r6 : G.T × Unit) =>
 some [yR 3 r6.1, yR 0 r4.2.1]) (cnd (decide (a13 = (4 : Int))) (obL [.rc 3, .rc 0] (c 23 [yS 15 a1, yI (IntKind.i64.wrap (a2 - (1 : Int))), yR 0 b0]) fun (r7 : G.T × G.Z × Unit) =>
 obL [.rc 3] (c 11 [yT ([101, 113, 117, 97, 108] : List UInt8), yS 3 ([b107, r7.1] : List G.T)]) fun (r8 : G.T × Unit) =>
 some [yR 3 r8.1, yR 0 r7.2.1]) (cnd (decide (a13 = (5 : Int))) (obL [.rc 3, .rc 0] (c 18 [yR 0 b0]) fun (r9 : G.T × G.Z × Unit) =>
 obL [.rc 3, .rc 0] (c 23 [yS 15 a1, yI (IntKind.i64.wrap (a2 - (1 : Int))), yR 0 r9.2.1]) fun (r10 : G.T × G.Z × Unit) =>
 obL [.rc 3] (c 11 [yT ([60] : List UInt8), yS 3 ([r9.1, r10.1] : List G.T)]) fun (r11 : G.T × Unit) =>
 obL [.rc 3] (c 11 [yT ([110, 111, 116] : List UInt8), yS 3 ([r11.1] : List G.T)]) fun (r12 : G.T × Unit) =>
 some [yR 3 r12.1, yR 0 r10.2.1]) (some [yR 3 b107, yR 0 b0])))))
def V17x1 (n : Nt) : Bool → Int → List G.E → Int → G.Z → G.T → G.T → Rt := fun x0 x1 x2 x3 x4 x5 x6 => n [yB x0, yI x1, yS 15 x2, yI x3, yR 0 x4, yR 3 x5, yR 3 x6]
def X17x1 := V17x1 (xD ii17 e [1, 1, 0, 1, 0, 1, 0] aFG (q17x2 c e))
theorem s17x0 : V17x0 (xF ii17 c e) = B17x0 c (X17x1 c e) := by kernel_rfl
theorem s17x1 : V17x1 (xA ii17 c e [1, 1, 0, 1, 0, 1, 0] aFG (q17x2 c e)) = B17x1 c := by kernel_rfl
def aDi (c : TC0) (L : Nat) : Bool → Int → List G.E → Int → G.Z → G.T → G.T → Rt := B17x1 c
theorem j17x1 : X17x1 c (cu c L) = aDi c L := by rw [X17x1, bF, s17x1]; rfl
def F17 (c : TC0) (L : Nat) : List G.E → Int → G.Z → Rt := B17x0 c (aDi c L)
theorem e17 : V17x0 (xF ii17 c (cu c L)) = F17 c L := by rw [s17x0]; simp only [j17x1]; rfl
theorem c17 (a1 : List G.E) (a2 : Int) (b0 : G.Z) (L n : Nat) : CTp L (n + 1) 17 [yS 15 a1, yI a2, yR 0 b0] = F17 (CTp L n) L a1 a2 b0 := by rw [← e17]; exact cg (x := ii17) (by kernel_rfl) (by kernel_rfl) L n _
def B18x0 (c : TC0) (b0 : G.Z) : Rt :=
 obL [i6, .rc 0] (c 16 [yI (3 : Int), yR 0 b0]) fun (r0 : Int × G.Z × Unit) =>
 ob (slc ([120, 121, 122] : List UInt8) r0.1 (List.length ([120, 121, 122] : List UInt8) : Int)) fun v1 =>
 ob (slc v1 (0 : Int) (1 : Int)) fun v2 =>
 obL [.rc 3] (c 10 [yT v2]) fun (r3 : G.T × Unit) =>
 some [yR 3 r3.1, yR 0 r0.2.1]
def V18x0 (n : Nt) : G.Z → Rt := fun x0 => n [yR 0 x0]
theorem s18x0 : V18x0 (xF ii18 c e) = B18x0 c := by kernel_rfl
def F18 (c : TC0) (L : Nat) : G.Z → Rt := B18x0 c
theorem e18 : V18x0 (xF ii18 c (cu c L)) = F18 c L := s18x0 _ _
theorem c18 (b0 : G.Z) (L n : Nat) : CTp L (n + 1) 18 [yR 0 b0] = F18 (CTp L n) L b0 := by rw [← e18]; exact cg (x := ii18) (by kernel_rfl) (by kernel_rfl) L n _
def q19x0 (c : TC0) (e : Cu) : Kt := xK tN
def q19x1 (c : TC0) (e : Cu) : Kt := xT tN c e [1, 1, 1] (q19x0 c e)
def q19x2 (c : TC0) (e : Cu) : Kt := xT tN c e [1, 1, 1, 0, 1] (q19x0 c e)
def aEf (c : TC0) (e : Cu) : Kt := dW U0 0 (q19x2 c e)
def q19x4 (c : TC0) (e : Cu) : Kt := xT tN c e [1, 1, 1, 0, 0, 1, 0, 1, 1, 1, 1, 1, 0, 1, 1, 1, 1, 1, 1, 1, 1, 1, 1, 1, 1, 1, 1, 0, 0, 1, 1, 1] (aEf c e)
def q19x5 (c : TC0) (e : Cu) : Kt := dW U0 1 (q19x4 c e)
def B19x0 (c : TC0) (k1 : Bool → Int → Int → G.Z → G.O → Rt) (a1 : Int) (b0 : G.Z) : Rt :=
 obL [i6, .rc 0] (c 16 [yI (14 : Int), yR 0 b0]) fun (r0 : Int × G.Z × Unit) =>
 cnd (decide (a1 < (1 : Int))) (k1 (decide ((9 : Int) < r0.1)) r0.1 a1 r0.2.1 (G.O.mk (0 : Int) ([] : List UInt8) ([] : List UInt8) (G.Y.mk ([] : List UInt8) ([] : List UInt8)) ([] : List UInt8) ([] : List G.O))) (k1 false r0.1 a1 r0.2.1 (G.O.mk (0 : Int) ([] : List UInt8) ([] : List UInt8) (G.Y.mk ([] : List UInt8) ([] : List UInt8)) ([] : List UInt8) ([] : List G.O)))
def V19x0 (n : Nt) : Int → G.Z → Rt := fun x0 x1 => n [yI x0, yR 0 x1]
def B19x1 (c : TC0) (k2 : Int → Int → G.Z → G.O → Rt) (a17 : Bool) (a5 : Int) (a1 : Int) (b0 : G.Z) (b104 : G.O) : Rt :=
 cnd a17 (k2 (IntKind.i64.wrap (a5 - (8 : Int))) a1 b0 b104) (k2 a5 a1 b0 b104)
def V19x1 (n : Nt) : Bool → Int → Int → G.Z → G.O → Rt := fun x0 x1 x2 x3 x4 => n [yB x0, yI x1, yI x2, yR 0 x3, yR 2 x4]
def X19x1 := V19x1 (xD tN e [1, 1, 0, 1, 0] aFF (q19x1 c e))
def B19x2 (c : TC0) (k3 : Bool → Int → Int → G.Z → G.O → Rt) (a5 : Int) (a1 : Int) (b0 : G.Z) (b104 : G.O) : Rt :=
 cnd (decide (a5 = (0 : Int))) (obL [.rc 2] (c 33 []) fun (r0 : G.O × Unit) =>
 some [yR 2 r0.1, yR 0 b0]) (cnd (decide (a5 = (1 : Int))) (obL [.rc 2] (c 49 []) fun (r1 : G.O × Unit) =>
 some [yR 2 r1.1, yR 0 b0]) (cnd (decide (a5 = (2 : Int))) (k3 (decide (a5 = (2 : Int))) a5 a1 b0 b104) (k3 (decide (a5 = (3 : Int))) a5 a1 b0 b104)))
def V19x2 (n : Nt) : Int → Int → G.Z → G.O → Rt := fun x0 x1 x2 x3 => n [yI x0, yI x1, yR 0 x2, yR 2 x3]
def X19x2 := V19x2 (xD tN e [1, 1, 1, 0] aFE (q19x0 c e))
def B19x3 (c : TC0) (k4 : Bool → Int → G.Z → G.O → Rt) (a27 : Bool) (a20 : Int) (a1 : Int) (b0 : G.Z) (b104 : G.O) : Rt :=
 cnd a27 (obL [i6, .rc 0] (c 16 [yI (7 : Int), yR 0 b0]) fun (r0 : Int × G.Z × Unit) =>
 obL [.rc 2] (c 50 [yI (IntKind.i64.wrap (r0.1 - (3 : Int)))]) fun (r1 : G.O × Unit) =>
 some [yR 2 r1.1, yR 0 r0.2.1]) (cnd (decide (a20 = (4 : Int))) (obL [.rc 2] (c 51 [yT ([49] : List UInt8), yT ([50] : List UInt8)]) fun (r2 : G.O × Unit) =>
 some [yR 2 r2.1, yR 0 b0]) (cnd (decide (a20 = (5 : Int))) (obL [.rc 2] (c 51 [yT ([45, 53] : List UInt8), yT ([51] : List UInt8)]) fun (r3 : G.O × Unit) =>
 some [yR 2 r3.1, yR 0 b0]) (cnd (decide (a20 = (6 : Int))) (obL [i6, .rc 0] (c 16 [yI (3 : Int), yR 0 b0]) fun (r4 : Int × G.Z × Unit) =>
 ob (slc ([97, 98, 99] : List UInt8) r4.1 (List.length ([97, 98, 99] : List UInt8) : Int)) fun v5 =>
 ob (slc v5 (0 : Int) (1 : Int)) fun v6 =>
 obL [.rc 1] (c 15 [yT v6]) fun (r7 : G.Y × Unit) =>
 obL [.rc 2] (c 52 [yR 1 r7.1]) fun (r8 : G.O × Unit) =>
 some [yR 2 r8.1, yR 0 r4.2.1]) (cnd (decide (a20 = (7 : Int))) (obL [i6, .rc 0] (c 16 [yI (3 : Int), yR 0 b0]) fun (r9 : Int × G.Z × Unit) =>
 ob (slc ([112, 113] : List UInt8) (0 : Int) r9.1) fun v10 =>
 obL [.rc 2] (c 53 [yT v10]) fun (r11 : G.O × Unit) =>
 some [yR 2 r11.1, yR 0 r9.2.1]) (cnd (decide (a20 = (8 : Int))) (obL [.rc 2] (c 50 [yI (0 : Int)]) fun (r12 : G.O × Unit) =>
 some [yR 2 r12.1, yR 0 b0]) (cnd (decide (a20 = (9 : Int))) (obL [.rc 2] (c 50 [yI (1 : Int)]) fun (r13 : G.O × Unit) =>
 some [yR 2 r13.1, yR 0 b0]) (cnd (decide (a20 = (10 : Int))) (k4 (decide (a20 = (10 : Int))) a1 b0 b104) (cnd (decide (a20 = (11 : Int))) (k4 (decide (a20 = (11 : Int))) a1 b0 b104) (k4 (decide (a20 = (12 : Int))) a1 b0 b104)))))))))
def V19x3 (n : Nt) : Bool → Int → Int → G.Z → G.O → Rt := fun x0 x1 x2 x3 x4 => n [yB x0, yI x1, yI x2, yR 0 x3, yR 2 x4]
def X19x3 := V19x3 (xD tN e [1, 1, 1, 0, 0, 1, 0, 1, 1, 1, 1, 1, 0] aFD (aEf c e))
def B19x4 (c : TC0) (e5 : Int → Int → Int → List G.O → G.Z → G.O → Rt) (a60 : Bool) (a1 : Int) (b0 : G.Z) (b104 : G.O) : Rt :=
 cnd a60 (obL [i6, .rc 0] (c 16 [yI (4 : Int), yR 0 b0]) fun (r0 : Int × G.Z × Unit) =>
 e5 r0.1 a1 (0 : Int) ([] : List G.O) r0.2.1 b104) (obL [.rc 2, .rc 0] (c 19 [yI (IntKind.i64.wrap (a1 - (1 : Int))), yR 0 b0]) fun (r1 : G.O × G.Z × Unit) =>
 obL [.rc 2, .rc 0] (c 19 [yI (IntKind.i64.wrap (a1 - (1 : Int))), yR 0 r1.2.1]) fun (r2 : G.O × G.Z × Unit) =>
 obL [.rc 2] (c 54 [yR 2 r1.1, yR 2 r2.1]) fun (r3 : G.O × Unit) =>
 some [yR 2 r3.1, yR 0 r2.2.1])
def V19x4 (n : Nt) : Bool → Int → G.Z → G.O → Rt := fun x0 x1 x2 x3 => n [yB x0, yI x1, yR 0 x2, yR 2 x3]
def X19x4 := V19x4 (xD tN e [1, 1, 1, 0, 0, 1, 0, 1, 1, 1, 1, 1, 0, 1, 1, 1, 1, 1, 1, 1, 1, 1, 1, 1, 1, 1, 1, 0] aFC (aEf c e))
def B19x5 (c : TC0) (n5 : Int → Int → Int → List G.O → G.Z → G.O → Rt) (a7 : Int) (a1 : Int) (a8 : Int) (a6 : List G.O) (b0 : G.Z) (b104 : G.O) : Rt :=
 cnd (decide (a8 < a7)) (obL [.rc 2, .rc 0] (c 19 [yI (IntKind.i64.wrap (a1 - (1 : Int))), yR 0 b0]) fun (r0 : G.O × G.Z × Unit) =>
 chk (Nat.ble ((List.length a6 + List.length ([r0.1] : List G.O)) * 112) 1073741824) <|
 n5 a7 a1 (IntKind.i64.wrap (a8 + (1 : Int))) (a6 ++ ([r0.1] : List G.O)) r0.2.1 b104) (obL [.rc 2] (c 55 [yS 2 a6]) fun (r1 : G.O × Unit) =>
 some [yR 2 r1.1, yR 0 b0])
def V19x5 (n : Nt) : Int → Int → Int → List G.O → G.Z → G.O → Rt := fun x0 x1 x2 x3 x4 x5 => n [yI x0, yI x1, yI x2, yS 2 x3, yR 0 x4, yR 2 x5]
def X19x5 := V19x5 (xE tN e [1, 1, 1, 0, 0, 1, 0, 1, 1, 1, 1, 1, 0, 1, 1, 1, 1, 1, 1, 1, 1, 1, 1, 1, 1, 1, 1, 0, 0, 1, 1, 0, 1, 0, 0] wV (q19x5 c e))
theorem s19x0 : V19x0 (xF tN c e) = B19x0 c (X19x1 c e) := by kernel_rfl
theorem s19x1 : V19x1 (xA tN c e [1, 1, 0, 1, 0] aFF (q19x1 c e)) = B19x1 c (X19x2 c e) := by kernel_rfl
theorem s19x2 : V19x2 (xA tN c e [1, 1, 1, 0] aFE (q19x0 c e)) = B19x2 c (X19x3 c e) := by kernel_rfl
theorem s19x3 : V19x3 (xA tN c e [1, 1, 1, 0, 0, 1, 0, 1, 1, 1, 1, 1, 0] aFD (aEf c e)) = B19x3 c (X19x4 c e) := by kernel_rfl
theorem s19x4 : V19x4 (xA tN c e [1, 1, 1, 0, 0, 1, 0, 1, 1, 1, 1, 1, 0, 1, 1, 1, 1, 1, 1, 1, 1, 1, 1, 1, 1, 1, 1, 0] aFC (aEf c e)) = B19x4 c (X19x5 c e) := by kernel_rfl
theorem s19x5 (n5 : Nt) : V19x5 (xA tN c e [1, 1, 1, 0, 0, 1, 0, 1, 1, 1, 1, 1, 0, 1, 1, 1, 1, 1, 1, 1, 1, 1, 1, 1, 1, 1, 1, 0, 0, 1, 1, 0, 1, 0, 0] wV (lpK U0 wV n5 (q19x5 c e))) = B19x5 c (V19x5 n5) := by kernel_rfl
def aAJ (c : TC0) (L : Nat) : Nat → Int → Int → Int → List G.O → G.Z → G.O → Rt
 | 0 => fun _ _ _ _ _ _ => none
 | n + 1 => B19x5 c (aAJ c L n)
theorem u19x5 (n : Nat) : V19x5 (xL tN c L [1, 1, 1, 0, 0, 1, 0, 1, 1, 1, 1, 1, 0, 1, 1, 1, 1, 1, 1, 1, 1, 1, 1, 1, 1, 1, 1, 0, 0, 1, 1, 0, 1, 0, 0] wV (q19x5 c (cu c L)) n) = aAJ c L n := by
 induction n with
 | zero => rfl
 | succ n ih => rw [iU, s19x5]; simp only [ih]; rfl
theorem w19x5 : X19x5 c (cu c L) = aAJ c L L := u19x5 c L L
def aDg (c : TC0) (L : Nat) : Bool → Int → G.Z → G.O → Rt := B19x4 c (aAJ c L L)
theorem j19x4 : X19x4 c (cu c L) = aDg c L := by rw [X19x4, bF, s19x4]; simp only [w19x5]; rfl
def J19x3 (c : TC0) (L : Nat) : Bool → Int → Int → G.Z → G.O → Rt := B19x3 c (aDg c L)
theorem j19x3 : X19x3 c (cu c L) = J19x3 c L := by rw [X19x3, bF, s19x3]; simp only [j19x4]; rfl
def aGq (c : TC0) (L : Nat) : Int → Int → G.Z → G.O → Rt := B19x2 c (J19x3 c L)
theorem j19x2 : X19x2 c (cu c L) = aGq c L := by rw [X19x2, bF, s19x2]; simp only [j19x3]; rfl
def aDh (c : TC0) (L : Nat) : Bool → Int → Int → G.Z → G.O → Rt := B19x1 c (aGq c L)
theorem j19x1 : X19x1 c (cu c L) = aDh c L := by rw [X19x1, bF, s19x1]; simp only [j19x2]; rfl
def F19 (c : TC0) (L : Nat) : Int → G.Z → Rt := B19x0 c (aDh c L)
theorem e19 : V19x0 (xF tN c (cu c L)) = F19 c L := by rw [s19x0]; simp only [j19x1]; rfl
theorem c19 (a1 : Int) (b0 : G.Z) (L n : Nat) : CTp L (n + 1) 19 [yI a1, yR 0 b0] = F19 (CTp L n) L a1 b0 := by rw [← e19]; exact cg (x := tN) (by kernel_rfl) (by kernel_rfl) L n _
def B21x0 (c : TC0) (a0 : Int) : Rt :=
 obL [.rc 2] (c 50 [yI a0]) fun (r0 : G.O × Unit) =>
 obL [.rc 3] (c 20 [yR 2 r0.1]) fun (r1 : G.T × Unit) =>
 some [yR 3 r1.1]
def V21x0 (n : Nt) : Int → Rt := fun x0 => n [yI x0]
theorem s21x0 : V21x0 (xF ii21 c e) = B21x0 c := by kernel_rfl
def F21 (c : TC0) (L : Nat) : Int → Rt := B21x0 c
theorem e21 : V21x0 (xF ii21 c (cu c L)) = F21 c L := s21x0 _ _
theorem c21 (a0 : Int) (L n : Nat) : CTp L (n + 1) 21 [yI a0] = F21 (CTp L n) L a0 := by rw [← e21]; exact cg (x := ii21) (by kernel_rfl) (by kernel_rfl) L n _
def q22x0 (c : TC0) (e : Cu) : Kt := xK ii22
def q22x1 (c : TC0) (e : Cu) : Kt := xT ii22 c e [1, 1, 1] (q22x0 c e)
def q22x2 (c : TC0) (e : Cu) : Kt := dW U0 0 (q22x1 c e)
def B22x0 (c : TC0) (e1 : List G.T → Int → List G.T → Rt) (a0 : List G.T) : Rt :=
 e1 a0 (0 : Int) ([] : List G.T)
def V22x0 (n : Nt) : List G.T → Rt := fun x0 => n [yS 3 x0]
def B22x1 (c : TC0) (n1 : List G.T → Int → List G.T → Rt) (a0 : List G.T) (a4 : Int) (a3 : List G.T) : Rt :=
 cnd (decide (a4 < (List.length a0 : Int))) (ob (idx a0 a4) fun v0 =>
 obL [zS 3] (c 56 [yS 3 a3, yR 3 v0]) fun (r1 : List G.T × Unit) =>
 n1 a0 (IntKind.i64.wrap (a4 + (1 : Int))) r1.1) (some [yS 3 a3])
def V22x1 (n : Nt) : List G.T → Int → List G.T → Rt := fun x0 x1 x2 => n [yS 3 x0, yI x1, yS 3 x2]
def X22x1 := V22x1 (xE ii22 e [1, 1, 0, 1, 0, 0] wT (q22x2 c e))
theorem s22x0 : V22x0 (xF ii22 c e) = B22x0 c (X22x1 c e) := by kernel_rfl
theorem s22x1 (n1 : Nt) : V22x1 (xA ii22 c e [1, 1, 0, 1, 0, 0] wT (lpK U0 wT n1 (q22x2 c e))) = B22x1 c (V22x1 n1) := by kernel_rfl
def aAI (c : TC0) (L : Nat) : Nat → List G.T → Int → List G.T → Rt
 | 0 => fun _ _ _ => none
 | n + 1 => B22x1 c (aAI c L n)
theorem u22x1 (n : Nat) : V22x1 (xL ii22 c L [1, 1, 0, 1, 0, 0] wT (q22x2 c (cu c L)) n) = aAI c L n := by
 induction n with
 | zero => rfl
 | succ n ih => rw [iU, s22x1]; simp only [ih]; rfl
theorem w22x1 : X22x1 c (cu c L) = aAI c L L := u22x1 c L L
def F22 (c : TC0) (L : Nat) : List G.T → Rt := B22x0 c (aAI c L L)
theorem e22 : V22x0 (xF ii22 c (cu c L)) = F22 c L := by rw [s22x0]; simp only [w22x1]; rfl
theorem c22 (a0 : List G.T) (L n : Nat) : CTp L (n + 1) 22 [yS 3 a0] = F22 (CTp L n) L a0 := by rw [← e22]; exact cg (x := ii22) (by kernel_rfl) (by kernel_rfl) L n _
def aCF (c : TC0) (e : Cu) : Kt := xK yK
def q23x1 (c : TC0) (e : Cu) : Kt := xT yK c e [1, 1, 1] (aCF c e)
def q23x2 (c : TC0) (e : Cu) : Kt := xT yK c e [1, 1, 1, 0, 1, 1, 1, 0, 1, 1, 1] (aCF c e)
def q23x3 (c : TC0) (e : Cu) : Kt := dW U0 1 (q23x2 c e)
def B23x0 (c : TC0) (k1 : Bool → Int → List G.E → Int → G.Z → G.T → Rt) (a1 : List G.E) (a2 : Int) (b0 : G.Z) : Rt :=
 obL [i6, .rc 0] (c 16 [yI (12 : Int), yR 0 b0]) fun (r0 : Int × G.Z × Unit) =>
 cnd (decide (a2 < (1 : Int))) (k1 (decide ((3 : Int) < r0.1)) r0.1 a1 a2 r0.2.1 (G.T.mk (0 : Int) (G.Y.mk ([] : List UInt8) ([] : List UInt8)) (G.O.mk (0 : Int) ([] : List UInt8) ([] : List UInt8) (G.Y.mk ([] : List UInt8) ([] : List UInt8)) ([] : List UInt8) ([] : List G.O)) ([] : List G.T))) (k1 false r0.1 a1 a2 r0.2.1 (G.T.mk (0 : Int) (G.Y.mk ([] : List UInt8) ([] : List UInt8)) (G.O.mk (0 : Int) ([] : List UInt8) ([] : List UInt8) (G.Y.mk ([] : List UInt8) ([] : List UInt8)) ([] : List UInt8) ([] : List G.O)) ([] : List G.T)))
def V23x0 (n : Nt) : List G.E → Int → G.Z → Rt := fun x0 x1 x2 => n [yS 15 x0, yI x1, yR 0 x2]
def B23x1 (c : TC0) (k2 : Int → List G.E → Int → G.Z → G.T → Rt) (a22 : Bool) (a7 : Int) (a1 : List G.E) (a2 : Int) (b0 : G.Z) (b106 : G.T) : Rt :=
 cnd a22 (chk (!decide ((4 : Int) = 0)) <|
 k2 (Int.tmod a7 (4 : Int)) a1 a2 b0 b106) (k2 a7 a1 a2 b0 b106)
def V23x1 (n : Nt) : Bool → Int → List G.E → Int → G.Z → G.T → Rt := fun x0 x1 x2 x3 x4 x5 => n [yB x0, yI x1, yS 15 x2, yI x3, yR 0 x4, yR 3 x5]
def X23x1 := V23x1 (xD yK e [1, 1, 0, 1, 0] aFB (q23x1 c e))
def B23x2 (c : TC0) (k3 : List G.E → Int → G.Z → G.Y → G.T → Rt) (a7 : Int) (a1 : List G.E) (a2 : Int) (b0 : G.Z) (b106 : G.T) : Rt :=
 cnd (decide (a7 < (3 : Int))) (obL [.rc 3, .rc 0] (c 18 [yR 0 b0]) fun (r0 : G.T × G.Z × Unit) =>
 some [yR 3 r0.1, yR 0 r0.2.1]) (cnd (decide (a7 = (3 : Int))) (obL [.rc 2, .rc 0] (c 19 [yI (1 : Int), yR 0 b0]) fun (r1 : G.O × G.Z × Unit) =>
 obL [.rc 3] (c 20 [yR 2 r1.1]) fun (r2 : G.T × Unit) =>
 some [yR 3 r2.1, yR 0 r1.2.1]) (obL [(.sl .str)] (c 57 []) fun (r3 : (List (List UInt8)) × Unit) =>
 obL [(.sl .str)] (c 58 []) fun (r4 : (List (List UInt8)) × Unit) =>
 obL [i6, .rc 0] (c 16 [yI (4 : Int), yR 0 b0]) fun (r5 : Int × G.Z × Unit) =>
 cnd (decide (r5.1 < (3 : Int))) (obL [i6, .rc 0] (c 16 [yI (List.length r3.1 : Int), yR 0 r5.2.1]) fun (r6 : Int × G.Z × Unit) =>
 ob (idx r3.1 r6.1) fun v7 =>
 obL [.rc 1] (c 59 [yT v7]) fun (r8 : G.Y × Unit) =>
 k3 a1 a2 r6.2.1 r8.1 b106) (obL [i6, .rc 0] (c 16 [yI (List.length r4.1 : Int), yR 0 r5.2.1]) fun (r9 : Int × G.Z × Unit) =>
 ob (idx r4.1 r9.1) fun v10 =>
 obL [.rc 1] (c 15 [yT v10]) fun (r11 : G.Y × Unit) =>
 k3 a1 a2 r9.2.1 r11.1 b106)))
def V23x2 (n : Nt) : Int → List G.E → Int → G.Z → G.T → Rt := fun x0 x1 x2 x3 x4 => n [yI x0, yS 15 x1, yI x2, yR 0 x3, yR 3 x4]
def X23x2 := V23x2 (xD yK e [1, 1, 1, 0] aFA (aCF c e))
def B23x3 (c : TC0) (e4 : Int → List G.E → Int → Int → List G.T → G.Z → G.Y → G.T → Rt) (a1 : List G.E) (a2 : Int) (b0 : G.Z) (b108 : G.Y) (b106 : G.T) : Rt :=
 obL [i6, .bool] (c 60 [yS 15 a1, yR 1 b108]) fun (r0 : Int × Bool × Unit) =>
 e4 r0.1 a1 a2 (0 : Int) ([] : List G.T) b0 b108 b106
def V23x3 (n : Nt) : List G.E → Int → G.Z → G.Y → G.T → Rt := fun x0 x1 x2 x3 x4 => n [yS 15 x0, yI x1, yR 0 x2, yR 1 x3, yR 3 x4]
def X23x3 := V23x3 (xD yK e [1, 1, 1, 0, 1, 1, 1, 0] aFz (aCF c e))
def B23x4 (c : TC0) (n4 : Int → List G.E → Int → Int → List G.T → G.Z → G.Y → G.T → Rt) (a11 : Int) (a1 : List G.E) (a2 : Int) (a14 : Int) (a13 : List G.T) (b0 : G.Z) (b108 : G.Y) (b106 : G.T) : Rt :=
 cnd (decide (a14 < a11)) (obL [.rc 3, .rc 0] (c 23 [yS 15 a1, yI (IntKind.i64.wrap (a2 - (1 : Int))), yR 0 b0]) fun (r0 : G.T × G.Z × Unit) =>
 chk (Nat.ble ((List.length a13 + List.length ([r0.1] : List G.T)) * 176) 1073741824) <|
 n4 a11 a1 a2 (IntKind.i64.wrap (a14 + (1 : Int))) (a13 ++ ([r0.1] : List G.T)) r0.2.1 b108 b106) (obL [.rc 3] (c 48 [yR 1 b108, yS 3 a13]) fun (r1 : G.T × Unit) =>
 some [yR 3 r1.1, yR 0 b0])
def V23x4 (n : Nt) : Int → List G.E → Int → Int → List G.T → G.Z → G.Y → G.T → Rt := fun x0 x1 x2 x3 x4 x5 x6 x7 => n [yI x0, yS 15 x1, yI x2, yI x3, yS 3 x4, yR 0 x5, yR 1 x6, yR 3 x7]
def X23x4 := V23x4 (xE yK e [1, 1, 1, 0, 1, 1, 1, 0, 1, 1, 0, 1, 0, 0] wS (q23x3 c e))
theorem s23x0 : V23x0 (xF yK c e) = B23x0 c (X23x1 c e) := by kernel_rfl
theorem s23x1 : V23x1 (xA yK c e [1, 1, 0, 1, 0] aFB (q23x1 c e)) = B23x1 c (X23x2 c e) := by kernel_rfl
theorem s23x2 : V23x2 (xA yK c e [1, 1, 1, 0] aFA (aCF c e)) = B23x2 c (X23x3 c e) := by kernel_rfl
theorem s23x3 : V23x3 (xA yK c e [1, 1, 1, 0, 1, 1, 1, 0] aFz (aCF c e)) = B23x3 c (X23x4 c e) := by kernel_rfl
theorem s23x4 (n4 : Nt) : V23x4 (xA yK c e [1, 1, 1, 0, 1, 1, 1, 0, 1, 1, 0, 1, 0, 0] wS (lpK U0 wS n4 (q23x3 c e))) = B23x4 c (V23x4 n4) := by kernel_rfl
def aAH (c : TC0) (L : Nat) : Nat → Int → List G.E → Int → Int → List G.T → G.Z → G.Y → G.T → Rt
 | 0 => fun _ _ _ _ _ _ _ _ => none
 | n + 1 => B23x4 c (aAH c L n)
theorem u23x4 (n : Nat) : V23x4 (xL yK c L [1, 1, 1, 0, 1, 1, 1, 0, 1, 1, 0, 1, 0, 0] wS (q23x3 c (cu c L)) n) = aAH c L n := by
 induction n with
 | zero => rfl
 | succ n ih => rw [iU, s23x4]; simp only [ih]; rfl
theorem w23x4 : X23x4 c (cu c L) = aAH c L L := u23x4 c L L
def J23x3 (c : TC0) (L : Nat) : List G.E → Int → G.Z → G.Y → G.T → Rt := B23x3 c (aAH c L L)
theorem j23x3 : X23x3 c (cu c L) = J23x3 c L := by rw [X23x3, bF, s23x3]; simp only [w23x4]; rfl
def aGp (c : TC0) (L : Nat) : Int → List G.E → Int → G.Z → G.T → Rt := B23x2 c (J23x3 c L)
theorem j23x2 : X23x2 c (cu c L) = aGp c L := by rw [X23x2, bF, s23x2]; simp only [j23x3]; rfl
def aDf (c : TC0) (L : Nat) : Bool → Int → List G.E → Int → G.Z → G.T → Rt := B23x1 c (aGp c L)
theorem j23x1 : X23x1 c (cu c L) = aDf c L := by rw [X23x1, bF, s23x1]; simp only [j23x2]; rfl
def F23 (c : TC0) (L : Nat) : List G.E → Int → G.Z → Rt := B23x0 c (aDf c L)
theorem e23 : V23x0 (xF yK c (cu c L)) = F23 c L := by rw [s23x0]; simp only [j23x1]; rfl
theorem c23 (a1 : List G.E) (a2 : Int) (b0 : G.Z) (L n : Nat) : CTp L (n + 1) 23 [yS 15 a1, yI a2, yR 0 b0] = F23 (CTp L n) L a1 a2 b0 := by rw [← e23]; exact cg (x := yK) (by kernel_rfl) (by kernel_rfl) L n _
def q24x0 (c : TC0) (e : Cu) : Kt := xK ii24
def B24x0 (c : TC0) (k1 : Bool → Rt) (a0 : G.T) (a1 : List UInt8) (a2 : Int) : Rt :=
 cnd (decide (a0.kind = (3 : Int))) (cnd (decide (a0.name.package = ([108, 105, 115, 112] : List UInt8))) (cnd (decide (a0.name.name = a1)) (k1 (decide ((List.length a0.args : Int) = a2))) (k1 false)) (k1 false)) (k1 false)
def V24x0 (n : Nt) : G.T → List UInt8 → Int → Rt := fun x0 x1 x2 => n [yR 3 x0, yT x1, yI x2]
def B24x1 (c : TC0) (a6 : Bool) : Rt :=
 some [yB a6]
def V24x1 (n : Nt) : Bool → Rt := fun x0 => n [yB x0]
def X24x1 := V24x1 (xD ii24 e [1, 1, 0] aFy (q24x0 c e))
theorem s24x0 : V24x0 (xF ii24 c e) = B24x0 c (X24x1 c e) := by kernel_rfl
theorem s24x1 : V24x1 (xA ii24 c e [1, 1, 0] aFy (q24x0 c e)) = B24x1 c := by kernel_rfl
def J24x1 (c : TC0) (L : Nat) : Bool → Rt := B24x1 c
theorem j24x1 : X24x1 c (cu c L) = J24x1 c L := by rw [X24x1, bF, s24x1]; rfl
def F24 (c : TC0) (L : Nat) : G.T → List UInt8 → Int → Rt := B24x0 c (J24x1 c L)
theorem e24 : V24x0 (xF ii24 c (cu c L)) = F24 c L := by rw [s24x0]; simp only [j24x1]; rfl
theorem c24 (a0 : G.T) (a1 : List UInt8) (a2 : Int) (L n : Nat) : CTp L (n + 1) 24 [yR 3 a0, yT a1, yI a2] = F24 (CTp L n) L a0 a1 a2 := by rw [← e24]; exact cg (x := ii24) (by kernel_rfl) (by kernel_rfl) L n _
def q25x0 (c : TC0) (e : Cu) : Kt := xK ii25
def B25x0 (c : TC0) (k1 : Bool → Rt) (a0 : G.T) (a1 : G.T) : Rt :=
 cnd (decide (a0.kind = a1.kind)) (cnd (decide (a0.name = a1.name)) (obL [.bool] (c 61 [yR 2 a0.value, yR 2 a1.value]) fun (r0 : Bool × Unit) =>
 cnd r0.1 (obL [.bool] (c 62 [yS 3 a0.args, yS 3 a1.args]) fun (r1 : Bool × Unit) =>
 k1 r1.1) (k1 false)) (k1 false)) (k1 false)
def V25x0 (n : Nt) : G.T → G.T → Rt := fun x0 x1 => n [yR 3 x0, yR 3 x1]
def B25x1 (c : TC0) (a4 : Bool) : Rt :=
 some [yB a4]
def V25x1 (n : Nt) : Bool → Rt := fun x0 => n [yB x0]
def X25x1 := V25x1 (xD ii25 e [1, 1, 0] aFx (q25x0 c e))
theorem s25x0 : V25x0 (xF ii25 c e) = B25x0 c (X25x1 c e) := by kernel_rfl
theorem s25x1 : V25x1 (xA ii25 c e [1, 1, 0] aFx (q25x0 c e)) = B25x1 c := by kernel_rfl
def J25x1 (c : TC0) (L : Nat) : Bool → Rt := B25x1 c
theorem j25x1 : X25x1 c (cu c L) = J25x1 c L := by rw [X25x1, bF, s25x1]; rfl
def F25 (c : TC0) (L : Nat) : G.T → G.T → Rt := B25x0 c (J25x1 c L)
theorem e25 : V25x0 (xF ii25 c (cu c L)) = F25 c L := by rw [s25x0]; simp only [j25x1]; rfl
theorem c25 (a0 : G.T) (a1 : G.T) (L n : Nat) : CTp L (n + 1) 25 [yR 3 a0, yR 3 a1] = F25 (CTp L n) L a0 a1 := by rw [← e25]; exact cg (x := ii25) (by kernel_rfl) (by kernel_rfl) L n _
def B26x0 (c : TC0) (a0 : G.T) : Rt :=
 obL [.bool] (c 63 [yR 3 a0, yT ([110, 111, 116] : List UInt8), yI (1 : Int)]) fun (r0 : Bool × Unit) =>
 cnd r0.1 (ob (idx a0.args (0 : Int)) fun v1 =>
 some [yR 3 v1]) (obL [.rc 3] (c 64 [yT ([110, 111, 116] : List UInt8), yS 3 ([a0] : List G.T)]) fun (r2 : G.T × Unit) =>
 some [yR 3 r2.1])
def V26x0 (n : Nt) : G.T → Rt := fun x0 => n [yR 3 x0]
theorem s26x0 : V26x0 (xF ii26 c e) = B26x0 c := by kernel_rfl
def F26 (c : TC0) (L : Nat) : G.T → Rt := B26x0 c
theorem e26 : V26x0 (xF ii26 c (cu c L)) = F26 c L := s26x0 _ _
theorem c26 (a0 : G.T) (L n : Nat) : CTp L (n + 1) 26 [yR 3 a0] = F26 (CTp L n) L a0 := by rw [← e26]; exact cg (x := ii26) (by kernel_rfl) (by kernel_rfl) L n _
def q27x0 (c : TC0) (e : Cu) : Kt := xK ii27
def q27x1 (c : TC0) (e : Cu) : Kt := xT ii27 c e [1, 1] (q27x0 c e)
def q27x2 (c : TC0) (e : Cu) : Kt := dW U0 0 (q27x1 c e)
def B27x0 (c : TC0) (e1 : Int → List G.T → Int → G.T → Rt) (a0 : List G.T) (a1 : G.T) : Rt :=
 e1 (List.length a0 : Int) a0 (0 : Int) a1
def V27x0 (n : Nt) : List G.T → G.T → Rt := fun x0 x1 => n [yS 3 x0, yR 3 x1]
def B27x1 (c : TC0) (n1 : Int → List G.T → Int → G.T → Rt) (a8 : Int) (a7 : List G.T) (a9 : Int) (b103 : G.T) : Rt :=
 cnd (decide (a9 < a8)) (ob (idx a7 a9) fun v0 =>
 obL [.bool] (c 25 [yR 3 v0, yR 3 b103]) fun (r1 : Bool × Unit) =>
 cnd r1.1 (some [yB true]) (n1 a8 a7 (IntKind.i64.wrap (a9 + (1 : Int))) b103)) (some [yB false])
def V27x1 (n : Nt) : Int → List G.T → Int → G.T → Rt := fun x0 x1 x2 x3 => n [yI x0, yS 3 x1, yI x2, yR 3 x3]
def X27x1 := V27x1 (xE ii27 e [1, 0, 1, 0, 0] wR (q27x2 c e))
theorem s27x0 : V27x0 (xF ii27 c e) = B27x0 c (X27x1 c e) := by kernel_rfl
theorem s27x1 (n1 : Nt) : V27x1 (xA ii27 c e [1, 0, 1, 0, 0] wR (lpK U0 wR n1 (q27x2 c e))) = B27x1 c (V27x1 n1) := by kernel_rfl
def aAG (c : TC0) (L : Nat) : Nat → Int → List G.T → Int → G.T → Rt
 | 0 => fun _ _ _ _ => none
 | n + 1 => B27x1 c (aAG c L n)
theorem u27x1 (n : Nat) : V27x1 (xL ii27 c L [1, 0, 1, 0, 0] wR (q27x2 c (cu c L)) n) = aAG c L n := by
 induction n with
 | zero => rfl
 | succ n ih => rw [iU, s27x1]; simp only [ih]; rfl
theorem w27x1 : X27x1 c (cu c L) = aAG c L L := u27x1 c L L
def F27 (c : TC0) (L : Nat) : List G.T → G.T → Rt := B27x0 c (aAG c L L)
theorem e27 : V27x0 (xF ii27 c (cu c L)) = F27 c L := by rw [s27x0]; simp only [w27x1]; rfl
theorem c27 (a0 : List G.T) (a1 : G.T) (L n : Nat) : CTp L (n + 1) 27 [yS 3 a0, yR 3 a1] = F27 (CTp L n) L a0 a1 := by rw [← e27]; exact cg (x := ii27) (by kernel_rfl) (by kernel_rfl) L n _
def B28x0 (c : TC0) : Rt :=
 obL [.rc 2] (c 65 [yR 1 (G.Y.mk ([108, 105, 115, 112] : List UInt8) ([110, 105, 108] : List UInt8))]) fun (r0 : G.O × Unit) =>
 some [yR 2 r0.1]
def V28x0 (n : Nt) : Rt := n []
theorem s28x0 : V28x0 (xF ii28 c e) = B28x0 c := by kernel_rfl
def F28 (c : TC0) (L : Nat) : Rt := B28x0 c
theorem e28 : V28x0 (xF ii28 c (cu c L)) = F28 c L := s28x0 _ _
theorem c28 (L n : Nat) : CTp L (n + 1) 28 [] = F28 (CTp L n) L := by rw [← e28]; exact cg (x := ii28) (by kernel_rfl) (by kernel_rfl) L n _
def q29x0 (c : TC0) (e : Cu) : Kt := xK ii29
def B29x0 (c : TC0) (k1 : Bool → Rt) (a0 : G.T) (a1 : List UInt8) (a2 : Int) : Rt :=
 cnd (decide (a0.kind = (3 : Int))) (obL [.rc 1] (c 38 [yT a1]) fun (r0 : G.Y × Unit) =>
 cnd (decide (a0.name = r0.1)) (k1 (decide ((List.length a0.args : Int) = a2))) (k1 false)) (k1 false)
def V29x0 (n : Nt) : G.T → List UInt8 → Int → Rt := fun x0 x1 x2 => n [yR 3 x0, yT x1, yI x2]
def B29x1 (c : TC0) (a6 : Bool) : Rt :=
 some [yB a6]
def V29x1 (n : Nt) : Bool → Rt := fun x0 => n [yB x0]
def X29x1 := V29x1 (xD ii29 e [1, 1, 0] aFw (q29x0 c e))
theorem s29x0 : V29x0 (xF ii29 c e) = B29x0 c (X29x1 c e) := by kernel_rfl
theorem s29x1 : V29x1 (xA ii29 c e [1, 1, 0] aFw (q29x0 c e)) = B29x1 c := by kernel_rfl
def J29x1 (c : TC0) (L : Nat) : Bool → Rt := B29x1 c
theorem j29x1 : X29x1 c (cu c L) = J29x1 c L := by rw [X29x1, bF, s29x1]; rfl
def F29 (c : TC0) (L : Nat) : G.T → List UInt8 → Int → Rt := B29x0 c (J29x1 c L)
theorem e29 : V29x0 (xF ii29 c (cu c L)) = F29 c L := by rw [s29x0]; simp only [j29x1]; rfl
theorem c29 (a0 : G.T) (a1 : List UInt8) (a2 : Int) (L n : Nat) : CTp L (n + 1) 29 [yR 3 a0, yT a1, yI a2] = F29 (CTp L n) L a0 a1 a2 := by rw [← e29]; exact cg (x := ii29) (by kernel_rfl) (by kernel_rfl) L n _
def q30x0 (c : TC0) (e : Cu) : Kt := xK ii30
def B30x0 (c : TC0) (k1 : Bool → Rt) (a0 : G.T) (a1 : G.T) : Rt :=
 cnd (decide (a0.kind = a1.kind)) (cnd (decide (a0.name = a1.name)) (obL [.bool] (c 8 [yR 2 a0.value, yR 2 a1.value]) fun (r0 : Bool × Unit) =>
 cnd r0.1 (obL [.bool] (c 66 [yS 3 a0.args, yS 3 a1.args]) fun (r1 : Bool × Unit) =>
 k1 r1.1) (k1 false)) (k1 false)) (k1 false)
def V30x0 (n : Nt) : G.T → G.T → Rt := fun x0 x1 => n [yR 3 x0, yR 3 x1]
def B30x1 (c : TC0) (a4 : Bool) : Rt :=
 some [yB a4]
def V30x1 (n : Nt) : Bool → Rt := fun x0 => n [yB x0]
def X30x1 := V30x1 (xD ii30 e [1, 1, 0] aFv (q30x0 c e))
theorem s30x0 : V30x0 (xF ii30 c e) = B30x0 c (X30x1 c e) := by kernel_rfl
theorem s30x1 : V30x1 (xA ii30 c e [1, 1, 0] aFv (q30x0 c e)) = B30x1 c := by kernel_rfl
def J30x1 (c : TC0) (L : Nat) : Bool → Rt := B30x1 c
theorem j30x1 : X30x1 c (cu c L) = J30x1 c L := by rw [X30x1, bF, s30x1]; rfl
def F30 (c : TC0) (L : Nat) : G.T → G.T → Rt := B30x0 c (J30x1 c L)
theorem e30 : V30x0 (xF ii30 c (cu c L)) = F30 c L := by rw [s30x0]; simp only [j30x1]; rfl
theorem c30 (a0 : G.T) (a1 : G.T) (L n : Nat) : CTp L (n + 1) 30 [yR 3 a0, yR 3 a1] = F30 (CTp L n) L a0 a1 := by rw [← e30]; exact cg (x := ii30) (by kernel_rfl) (by kernel_rfl) L n _
def B31x0 (c : TC0) (a0 : G.T) : Rt :=
 obL [.bool] (c 29 [yR 3 a0, yT ([110, 111, 116] : List UInt8), yI (1 : Int)]) fun (r0 : Bool × Unit) =>
 cnd r0.1 (ob (idx a0.args (0 : Int)) fun v1 =>
 some [yR 3 v1]) (obL [.rc 3] (c 35 [yT ([110, 111, 116] : List UInt8), yS 3 ([a0] : List G.T)]) fun (r2 : G.T × Unit) =>
 some [yR 3 r2.1])
def V31x0 (n : Nt) : G.T → Rt := fun x0 => n [yR 3 x0]
theorem s31x0 : V31x0 (xF ii31 c e) = B31x0 c := by kernel_rfl
def F31 (c : TC0) (L : Nat) : G.T → Rt := B31x0 c
theorem e31 : V31x0 (xF ii31 c (cu c L)) = F31 c L := s31x0 _ _
theorem c31 (a0 : G.T) (L n : Nat) : CTp L (n + 1) 31 [yR 3 a0] = F31 (CTp L n) L a0 := by rw [← e31]; exact cg (x := ii31) (by kernel_rfl) (by kernel_rfl) L n _
def q32x0 (c : TC0) (e : Cu) : Kt := xK ii32
def q32x1 (c : TC0) (e : Cu) : Kt := xT ii32 c e [1, 1] (q32x0 c e)
def q32x2 (c : TC0) (e : Cu) : Kt := dW U0 0 (q32x1 c e)
def B32x0 (c : TC0) (e1 : List G.T → Int → G.T → Rt) (a0 : List G.T) (a1 : G.T) : Rt :=
 e1 a0 (0 : Int) a1
def V32x0 (n : Nt) : List G.T → G.T → Rt := fun x0 x1 => n [yS 3 x0, yR 3 x1]
def B32x1 (c : TC0) (n1 : List G.T → Int → G.T → Rt) (a0 : List G.T) (a5 : Int) (b103 : G.T) : Rt :=
 cnd (decide (a5 < (List.length a0 : Int))) (ob (idx a0 a5) fun v0 =>
 obL [.bool] (c 30 [yR 3 v0, yR 3 b103]) fun (r1 : Bool × Unit) =>
 cnd r1.1 (some [yB true]) (n1 a0 (IntKind.i64.wrap (a5 + (1 : Int))) b103)) (some [yB false])
def V32x1 (n : Nt) : List G.T → Int → G.T → Rt := fun x0 x1 x2 => n [yS 3 x0, yI x1, yR 3 x2]
def X32x1 := V32x1 (xE ii32 e [1, 0, 1, 0, 0] wQ (q32x2 c e))
theorem s32x0 : V32x0 (xF ii32 c e) = B32x0 c (X32x1 c e) := by kernel_rfl
theorem s32x1 (n1 : Nt) : V32x1 (xA ii32 c e [1, 0, 1, 0, 0] wQ (lpK U0 wQ n1 (q32x2 c e))) = B32x1 c (V32x1 n1) := by kernel_rfl
def aAF (c : TC0) (L : Nat) : Nat → List G.T → Int → G.T → Rt
 | 0 => fun _ _ _ => none
 | n + 1 => B32x1 c (aAF c L n)
theorem u32x1 (n : Nat) : V32x1 (xL ii32 c L [1, 0, 1, 0, 0] wQ (q32x2 c (cu c L)) n) = aAF c L n := by
 induction n with
 | zero => rfl
 | succ n ih => rw [iU, s32x1]; simp only [ih]; rfl
theorem w32x1 : X32x1 c (cu c L) = aAF c L L := u32x1 c L L
def F32 (c : TC0) (L : Nat) : List G.T → G.T → Rt := B32x0 c (aAF c L L)
theorem e32 : V32x0 (xF ii32 c (cu c L)) = F32 c L := by rw [s32x0]; simp only [w32x1]; rfl
theorem c32 (a0 : List G.T) (a1 : G.T) (L n : Nat) : CTp L (n + 1) 32 [yS 3 a0, yR 3 a1] = F32 (CTp L n) L a0 a1 := by rw [← e32]; exact cg (x := ii32) (by kernel_rfl) (by kernel_rfl) L n _
end
end Go.TV
