import Derived.Test.YtgeanbfoeopjfaaGreatDoorKq
import Derived.Test.YtgeanbfoeopjfaaGreatDoorKs
set_option linter.unusedVariables false
set_option linter.unusedSimpArgs false
set_option linter.constructorNameAsVariable false
namespace Go.TV
open Go.AI Go.PI Go.Proofs
set_option maxRecDepth 20000
noncomputable section
variable (c : TC0) (e : Cu) (L : Nat)
def B15x0 (c : TC0) (b0 : G.Z) : Rt :=
 obL [i6, .rc 0] (c 14 [yI (3 : Int), yR 0 b0]) fun (r0 : Int × G.Z × Unit) =>
 ob (slc ([120, 121, 122] : List UInt8) r0.1 (List.length ([120, 121, 122] : List UInt8) : Int)) fun v1 =>
 ob (slc v1 (0 : Int) (1 : Int)) fun v2 =>
 obL [.rc 3] (c 6 [yT v2]) fun (r3 : G.T × Unit) =>
 some [yR 3 r3.1, yR 0 r0.2.1]
def V15x0 (n : Nt) : G.Z → Rt := fun x0 => n [yR 0 x0]
theorem s15x0 : V15x0 (xF ii15 c e) = B15x0 c := by kernel_rfl
def F15 (c : TC0) (L : Nat) : G.Z → Rt := B15x0 c
theorem e15 : V15x0 (xF ii15 c (cu c L)) = F15 c L := s15x0 _ _
theorem c15 (b0 : G.Z) (L n : Nat) : CTp L (n + 1) 15 [yR 0 b0] = F15 (CTp L n) L b0 := by rw [← e15]; exact cg (x := ii15) (by kernel_rfl) (by kernel_rfl) L n _
def q16x0 (c : TC0) (e : Cu) : Kt := xK aDR
def q16x1 (c : TC0) (e : Cu) : Kt := xT aDR c e [1, 1, 1] (q16x0 c e)
def q16x2 (c : TC0) (e : Cu) : Kt := dD U0 0 (q16x1 c e)
def q16x3 (c : TC0) (e : Cu) (n1 : Nt) : Kt := lpK U0 qL n1 (q16x2 c e)
def B16x0 (c : TC0) (e1 : List G.T → Int → List G.T → Rt) (a0 : List G.T) (a1 : List G.T) : Rt :=
 chk (decide (0 ≤ (0 : Int)) && decide ((0 : Int) ≤ (IntKind.i64.wrap ((List.length a0 : Int) + (List.length a1 : Int)))) && decide ((IntKind.i64.wrap ((List.length a0 : Int) + (List.length a1 : Int))) * (176 : Int) ≤ 1073741824) && decide ((IntKind.i64.wrap ((List.length a0 : Int) + (List.length a1 : Int))) ≤ 1073741824)) <|
 chk (decide ((0 : Int) = 0)) <|
 chk (Nat.ble ((List.length ([] : List G.T) + List.length a0) * 176) 1073741824) <|
 e1 a1 (0 : Int) (([] : List G.T) ++ a0)
def V16x0 (n : Nt) : List G.T → List G.T → Rt := fun x0 x1 => n [yS 3 x0, yS 3 x1]
def B16x1 (c : TC0) (k2 : Int → List G.T → List G.T → Rt) (a1 : List G.T) (a6 : Int) (a5 : List G.T) : Rt :=
 cnd (decide (a6 < (List.length a1 : Int))) (ob (idx a1 a6) fun v0 =>
 obL [.bool] (c 46 [yS 3 a5, yR 3 v0]) fun (r1 : Bool × Unit) =>
 cnd (!r1.1) (ob (idx a1 a6) fun v2 =>
 chk (Nat.ble ((List.length a5 + List.length ([v2] : List G.T)) * 176) 1073741824) <|
 k2 a6 a1 (a5 ++ ([v2] : List G.T))) (k2 a6 a1 a5)) (some [yS 3 a5])
def aFp (n : Nt) : List G.T → Int → List G.T → Rt := fun x0 x1 x2 => n [yS 3 x0, yI x1, yS 3 x2]
def X16x1 := aFp (xE aDR e [1, 1, 0, 1, 0, 0] qL (q16x2 c e))
def B16x2 (c : TC0) (n1 : List G.T → Int → List G.T → Rt) (a6 : Int) (a1 : List G.T) (a5 : List G.T) : Rt :=
 n1 a1 (IntKind.i64.wrap (a6 + (1 : Int))) a5
def V16x2 (n : Nt) : Int → List G.T → List G.T → Rt := fun x0 x1 x2 => n [yI x0, yS 3 x1, yS 3 x2]
def X16x2 (n1 : Nt) := V16x2 (xD aDR e [1, 1, 0, 1, 0, 0, 1, 1, 0] aEJ (q16x3 c e n1))
theorem s16x0 : V16x0 (xF aDR c e) = B16x0 c (X16x1 c e) := by kernel_rfl
theorem s16x1 (n1 : Nt) : aFp (xA aDR c e [1, 1, 0, 1, 0, 0] qL (lpK U0 qL n1 (q16x2 c e))) = B16x1 c (X16x2 c e n1) := by kernel_rfl
theorem s16x2 (n1 : Nt) : V16x2 (xA aDR c e [1, 1, 0, 1, 0, 0, 1, 1, 0] aEJ (q16x3 c e n1)) = B16x2 c (aFp n1) := by kernel_rfl
def J16x2 (c : TC0) (L : Nat) (n1 : List G.T → Int → List G.T → Rt) : Int → List G.T → List G.T → Rt := B16x2 c n1
theorem j16x2 (n1 : Nt) : X16x2 c (cu c L) n1 = J16x2 c L (aFp n1) := by rw [X16x2, aY, s16x2]; rfl
def zM (c : TC0) (L : Nat) : Nat → List G.T → Int → List G.T → Rt
 | 0 => fun _ _ _ => none
 | n + 1 => B16x1 c (J16x2 c L (zM c L n))
theorem u16x1 (n : Nat) : aFp (xL aDR c L [1, 1, 0, 1, 0, 0] qL (q16x2 c (cu c L)) n) = zM c L n := by
 induction n with
 | zero => rfl
 | succ n ih => rw [gW, s16x1]; simp only [j16x2, ih]; rfl
theorem w16x1 : X16x1 c (cu c L) = zM c L L := u16x1 c L L
def F16 (c : TC0) (L : Nat) : List G.T → List G.T → Rt := B16x0 c (zM c L L)
theorem e16 : V16x0 (xF aDR c (cu c L)) = F16 c L := by rw [s16x0]; simp only [w16x1]; rfl
theorem c16 (a0 : List G.T) (a1 : List G.T) (L n : Nat) : CTp L (n + 1) 16 [yS 3 a0, yS 3 a1] = F16 (CTp L n) L a0 a1 := by rw [← e16]; exact cg (x := aDR) (by kernel_rfl) (by kernel_rfl) L n _
def q17x0 (c : TC0) (e : Cu) : Kt := xK ii17
def q17x1 (c : TC0) (e : Cu) : Kt := xT ii17 c e [1, 1] (q17x0 c e)
def B17x0 (c : TC0) (k1 : Bool → G.T → G.T → G.T → Rt) (a0 : G.T) : Rt :=
 obL [.bool] (c 47 [yR 3 a0, yT ([110, 111, 116] : List UInt8), yI (1 : Int)]) fun (r0 : Bool × Unit) =>
 cnd (!r0.1) (k1 true a0 (G.T.mk (0 : Int) (G.Y.mk ([] : List UInt8) ([] : List UInt8)) (G.O.mk (0 : Int) ([] : List UInt8) ([] : List UInt8) (G.Y.mk ([] : List UInt8) ([] : List UInt8)) ([] : List UInt8) ([] : List G.O)) ([] : List G.T)) (G.T.mk (0 : Int) (G.Y.mk ([] : List UInt8) ([] : List UInt8)) (G.O.mk (0 : Int) ([] : List UInt8) ([] : List UInt8) (G.Y.mk ([] : List UInt8) ([] : List UInt8)) ([] : List UInt8) ([] : List G.O)) ([] : List G.T))) (ob (idx a0.args (0 : Int)) fun v1 =>
 obL [.bool] (c 47 [yR 3 v1, yT ([101, 113, 117, 97, 108] : List UInt8), yI (2 : Int)]) fun (r2 : Bool × Unit) =>
 k1 (!r2.1) a0 (G.T.mk (0 : Int) (G.Y.mk ([] : List UInt8) ([] : List UInt8)) (G.O.mk (0 : Int) ([] : List UInt8) ([] : List UInt8) (G.Y.mk ([] : List UInt8) ([] : List UInt8)) ([] : List UInt8) ([] : List G.O)) ([] : List G.T)) (G.T.mk (0 : Int) (G.Y.mk ([] : List UInt8) ([] : List UInt8)) (G.O.mk (0 : Int) ([] : List UInt8) ([] : List UInt8) (G.Y.mk ([] : List UInt8) ([] : List UInt8)) ([] : List UInt8) ([] : List G.O)) ([] : List G.T)))
def V17x0 (n : Nt) : G.T → Rt := fun x0 => n [yR 3 x0]
def aFF (c : TC0) (a15 : Bool) (b101 : G.T) (b102 : G.T) (b103 : G.T) : Rt :=
 cnd a15 (some [yR 3 (G.T.mk (0 : Int) (G.Y.mk ([] : List UInt8) ([] : List UInt8)) (G.O.mk (0 : Int) ([] : List UInt8) ([] : List UInt8) (G.Y.mk ([] : List UInt8) ([] : List UInt8)) ([] : List UInt8) ([] : List G.O)) ([] : List G.T)), yR 3 (G.T.mk (0 : Int) (G.Y.mk ([] : List UInt8) ([] : List UInt8)) (G.O.mk (0 : Int) ([] : List UInt8) ([] : List UInt8) (G.Y.mk ([] : List UInt8) ([] : List UInt8)) ([] : List UInt8) ([] : List G.O)) ([] : List G.T)), yB false]) (ob (idx b101.args (0 : Int)) fun v0 =>
 ob (idx v0.args (0 : Int)) fun v1 =>
 ob (idx b101.args (0 : Int)) fun v2 =>
 ob (idx v2.args (1 : Int)) fun v3 =>
 some [yR 3 v1, yR 3 v3, yB true])
def V17x1 (n : Nt) : Bool → G.T → G.T → G.T → Rt := fun x0 x1 x2 x3 => n [yB x0, yR 3 x1, yR 3 x2, yR 3 x3]
def X17x1 := V17x1 (xD ii17 e [1, 0, 1, 0] aEI (q17x1 c e))
theorem s17x0 : V17x0 (xF ii17 c e) = B17x0 c (X17x1 c e) := by kernel_rfl
theorem s17x1 : V17x1 (xA ii17 c e [1, 0, 1, 0] aEI (q17x1 c e)) = aFF c := by kernel_rfl
def aCl (c : TC0) (L : Nat) : Bool → G.T → G.T → G.T → Rt := aFF c
theorem j17x1 : X17x1 c (cu c L) = aCl c L := by rw [X17x1, aY, s17x1]; rfl
def F17 (c : TC0) (L : Nat) : G.T → Rt := B17x0 c (aCl c L)
theorem e17 : V17x0 (xF ii17 c (cu c L)) = F17 c L := by rw [s17x0]; simp only [j17x1]; rfl
theorem c17 (a0 : G.T) (L n : Nat) : CTp L (n + 1) 17 [yR 3 a0] = F17 (CTp L n) L a0 := by rw [← e17]; exact cg (x := ii17) (by kernel_rfl) (by kernel_rfl) L n _
def q18x0 (c : TC0) (e : Cu) : Kt := xK ii18
def B18x0 (c : TC0) (k1 : Bool → Rt) (a0 : G.T) (a1 : G.T) : Rt :=
 cnd (decide (a0.kind = a1.kind)) (cnd (decide (a0.name = a1.name)) (obL [.bool] (c 48 [yR 2 a0.value, yR 2 a1.value]) fun (r0 : Bool × Unit) =>
 cnd r0.1 (obL [.bool] (c 49 [yS 3 a0.args, yS 3 a1.args]) fun (r1 : Bool × Unit) =>
 k1 r1.1) (k1 false)) (k1 false)) (k1 false)
def V18x0 (n : Nt) : G.T → G.T → Rt := fun x0 x1 => n [yR 3 x0, yR 3 x1]
def B18x1 (c : TC0) (a4 : Bool) : Rt :=
 some [yB a4]
def V18x1 (n : Nt) : Bool → Rt := fun x0 => n [yB x0]
def X18x1 := V18x1 (xD ii18 e [1, 1, 0] aEH (q18x0 c e))
theorem s18x0 : V18x0 (xF ii18 c e) = B18x0 c (X18x1 c e) := by kernel_rfl
theorem s18x1 : V18x1 (xA ii18 c e [1, 1, 0] aEH (q18x0 c e)) = B18x1 c := by kernel_rfl
def J18x1 (c : TC0) (L : Nat) : Bool → Rt := B18x1 c
theorem j18x1 : X18x1 c (cu c L) = J18x1 c L := by rw [X18x1, aY, s18x1]; rfl
def F18 (c : TC0) (L : Nat) : G.T → G.T → Rt := B18x0 c (J18x1 c L)
theorem e18 : V18x0 (xF ii18 c (cu c L)) = F18 c L := by rw [s18x0]; simp only [j18x1]; rfl
theorem c18 (a0 : G.T) (a1 : G.T) (L n : Nat) : CTp L (n + 1) 18 [yR 3 a0, yR 3 a1] = F18 (CTp L n) L a0 a1 := by rw [← e18]; exact cg (x := ii18) (by kernel_rfl) (by kernel_rfl) L n _
def q19x0 (c : TC0) (e : Cu) : Kt := xK aCA
def q19x1 (c : TC0) (e : Cu) : Kt := xT aCA c e [1, 1] (q19x0 c e)
def q19x2 (c : TC0) (e : Cu) : Kt := dD U0 0 (q19x1 c e)
def q19x3 (c : TC0) (e : Cu) (n1 : Nt) : Kt := lpK U0 qK n1 (q19x2 c e)
def q19x4 (c : TC0) (e : Cu) (n1 : Nt) : Kt := xT aCA c e [1, 0, 1, 0, 0, 1, 1, 1] (q19x3 c e n1)
def q19x5 (c : TC0) (e : Cu) (n1 : Nt) : Kt := dD U0 1 (q19x4 c e n1)
def B19x0 (c : TC0) (e1 : Int → List G.T → Int → Int → G.T → Rt) (a0 : List G.T) (a1 : Int) (a2 : G.T) : Rt :=
 e1 (List.length a0 : Int) a0 a1 (0 : Int) a2
def V19x0 (n : Nt) : List G.T → Int → G.T → Rt := fun x0 x1 x2 => n [yS 3 x0, yI x1, yR 3 x2]
def B19x1 (c : TC0) (k2 : Bool → Int → Int → List G.T → Int → G.T → Rt) (a10 : Int) (a9 : List G.T) (a1 : Int) (a11 : Int) (b105 : G.T) : Rt :=
 cnd (decide (a11 < a10)) (ob (idx a9 a11) fun v0 =>
 cnd (!decide (a11 = a1)) (obL [.bool] (c 50 [yR 3 b105, yR 3 v0]) fun (r1 : Bool × Unit) =>
 k2 r1.1 a11 a10 a9 a1 b105) (k2 false a11 a10 a9 a1 b105)) (some [yB false])
def aFo (n : Nt) : Int → List G.T → Int → Int → G.T → Rt := fun x0 x1 x2 x3 x4 => n [yI x0, yS 3 x1, yI x2, yI x3, yR 3 x4]
def X19x1 := aFo (xE aCA e [1, 0, 1, 0, 0] qK (q19x2 c e))
def B19x2 (c : TC0) (n1 : Int → List G.T → Int → Int → G.T → Rt) (a23 : Bool) (a11 : Int) (a10 : Int) (a9 : List G.T) (a1 : Int) (b105 : G.T) : Rt :=
 cnd a23 (some [yB true]) (n1 a10 a9 a1 (IntKind.i64.wrap (a11 + (1 : Int))) b105)
def V19x2 (n : Nt) : Bool → Int → Int → List G.T → Int → G.T → Rt := fun x0 x1 x2 x3 x4 x5 => n [yB x0, yI x1, yI x2, yS 3 x3, yI x4, yR 3 x5]
def X19x2 (n1 : Nt) := V19x2 (xD aCA e [1, 0, 1, 0, 0, 1, 1, 0, 0, 1, 1, 0] aEG (q19x5 c e n1))
theorem s19x0 : V19x0 (xF aCA c e) = B19x0 c (X19x1 c e) := by kernel_rfl
theorem s19x1 (n1 : Nt) : aFo (xA aCA c e [1, 0, 1, 0, 0] qK (lpK U0 qK n1 (q19x2 c e))) = B19x1 c (X19x2 c e n1) := by kernel_rfl
theorem s19x2 (n1 : Nt) : V19x2 (xA aCA c e [1, 0, 1, 0, 0, 1, 1, 0, 0, 1, 1, 0] aEG (q19x5 c e n1)) = B19x2 c (aFo n1) := by kernel_rfl
def aFt (c : TC0) (L : Nat) (n1 : Int → List G.T → Int → Int → G.T → Rt) : Bool → Int → Int → List G.T → Int → G.T → Rt := B19x2 c n1
theorem j19x2 (n1 : Nt) : X19x2 c (cu c L) n1 = aFt c L (aFo n1) := by rw [X19x2, aY, s19x2]; rfl
def vQ (c : TC0) (L : Nat) : Nat → Int → List G.T → Int → Int → G.T → Rt
 | 0 => fun _ _ _ _ _ => none
 | n + 1 => B19x1 c (aFt c L (vQ c L n))
theorem u19x1 (n : Nat) : aFo (xL aCA c L [1, 0, 1, 0, 0] qK (q19x2 c (cu c L)) n) = vQ c L n := by
 induction n with
 | zero => rfl
 | succ n ih => rw [gW, s19x1]; simp only [j19x2, ih]; rfl
theorem w19x1 : X19x1 c (cu c L) = vQ c L L := u19x1 c L L
def F19 (c : TC0) (L : Nat) : List G.T → Int → G.T → Rt := B19x0 c (vQ c L L)
theorem e19 : V19x0 (xF aCA c (cu c L)) = F19 c L := by rw [s19x0]; simp only [w19x1]; rfl
theorem c19 (a0 : List G.T) (a1 : Int) (a2 : G.T) (L n : Nat) : CTp L (n + 1) 19 [yS 3 a0, yI a1, yR 3 a2] = F19 (CTp L n) L a0 a1 a2 := by rw [← e19]; exact cg (x := aCA) (by kernel_rfl) (by kernel_rfl) L n _
def q20x0 (c : TC0) (e : Cu) : Kt := xK ii20
def q20x1 (c : TC0) (e : Cu) : Kt := xT ii20 c e [1, 1] (q20x0 c e)
def B20x0 (c : TC0) (k1 : Bool → G.T → G.T → G.T → Rt) (a0 : G.T) : Rt :=
 obL [.bool] (c 51 [yR 3 a0, yT ([110, 111, 116] : List UInt8), yI (1 : Int)]) fun (r0 : Bool × Unit) =>
 cnd (!r0.1) (k1 true a0 (G.T.mk (0 : Int) (G.Y.mk ([] : List UInt8) ([] : List UInt8)) (G.O.mk (0 : Int) ([] : List UInt8) ([] : List UInt8) (G.Y.mk ([] : List UInt8) ([] : List UInt8)) ([] : List UInt8) ([] : List G.O)) ([] : List G.T)) (G.T.mk (0 : Int) (G.Y.mk ([] : List UInt8) ([] : List UInt8)) (G.O.mk (0 : Int) ([] : List UInt8) ([] : List UInt8) (G.Y.mk ([] : List UInt8) ([] : List UInt8)) ([] : List UInt8) ([] : List G.O)) ([] : List G.T))) (ob (idx a0.args (0 : Int)) fun v1 =>
 obL [.bool] (c 51 [yR 3 v1, yT ([101, 113, 117, 97, 108] : List UInt8), yI (2 : Int)]) fun (r2 : Bool × Unit) =>
 k1 (!r2.1) a0 (G.T.mk (0 : Int) (G.Y.mk ([] : List UInt8) ([] : List UInt8)) (G.O.mk (0 : Int) ([] : List UInt8) ([] : List UInt8) (G.Y.mk ([] : List UInt8) ([] : List UInt8)) ([] : List UInt8) ([] : List G.O)) ([] : List G.T)) (G.T.mk (0 : Int) (G.Y.mk ([] : List UInt8) ([] : List UInt8)) (G.O.mk (0 : Int) ([] : List UInt8) ([] : List UInt8) (G.Y.mk ([] : List UInt8) ([] : List UInt8)) ([] : List UInt8) ([] : List G.O)) ([] : List G.T)))
def V20x0 (n : Nt) : G.T → Rt := fun x0 => n [yR 3 x0]
def aFE (c : TC0) (a15 : Bool) (b101 : G.T) (b102 : G.T) (b103 : G.T) : Rt :=
 cnd a15 (some [yR 3 (G.T.mk (0 : Int) (G.Y.mk ([] : List UInt8) ([] : List UInt8)) (G.O.mk (0 : Int) ([] : List UInt8) ([] : List UInt8) (G.Y.mk ([] : List UInt8) ([] : List UInt8)) ([] : List UInt8) ([] : List G.O)) ([] : List G.T)), yR 3 (G.T.mk (0 : Int) (G.Y.mk ([] : List UInt8) ([] : List UInt8)) (G.O.mk (0 : Int) ([] : List UInt8) ([] : List UInt8) (G.Y.mk ([] : List UInt8) ([] : List UInt8)) ([] : List UInt8) ([] : List G.O)) ([] : List G.T)), yB false]) (ob (idx b101.args (0 : Int)) fun v0 =>
 ob (idx v0.args (0 : Int)) fun v1 =>
 ob (idx b101.args (0 : Int)) fun v2 =>
 ob (idx v2.args (1 : Int)) fun v3 =>
 some [yR 3 v1, yR 3 v3, yB true])
def V20x1 (n : Nt) : Bool → G.T → G.T → G.T → Rt := fun x0 x1 x2 x3 => n [yB x0, yR 3 x1, yR 3 x2, yR 3 x3]
def X20x1 := V20x1 (xD ii20 e [1, 0, 1, 0] aEF (q20x1 c e))
theorem s20x0 : V20x0 (xF ii20 c e) = B20x0 c (X20x1 c e) := by kernel_rfl
theorem s20x1 : V20x1 (xA ii20 c e [1, 0, 1, 0] aEF (q20x1 c e)) = aFE c := by kernel_rfl
def aCk (c : TC0) (L : Nat) : Bool → G.T → G.T → G.T → Rt := aFE c
theorem j20x1 : X20x1 c (cu c L) = aCk c L := by rw [X20x1, aY, s20x1]; rfl
def F20 (c : TC0) (L : Nat) : G.T → Rt := B20x0 c (aCk c L)
theorem e20 : V20x0 (xF ii20 c (cu c L)) = F20 c L := by rw [s20x0]; simp only [j20x1]; rfl
theorem c20 (a0 : G.T) (L n : Nat) : CTp L (n + 1) 20 [yR 3 a0] = F20 (CTp L n) L a0 := by rw [← e20]; exact cg (x := ii20) (by kernel_rfl) (by kernel_rfl) L n _
def q21x0 (c : TC0) (e : Cu) : Kt := xK ii21
def B21x0 (c : TC0) (k1 : Bool → Rt) (a0 : G.T) (a1 : G.T) : Rt :=
 cnd (decide (a0.kind = a1.kind)) (cnd (decide (a0.name = a1.name)) (obL [.bool] (c 52 [yR 2 a0.value, yR 2 a1.value]) fun (r0 : Bool × Unit) =>
 cnd r0.1 (obL [.bool] (c 53 [yS 3 a0.args, yS 3 a1.args]) fun (r1 : Bool × Unit) =>
 k1 r1.1) (k1 false)) (k1 false)) (k1 false)
def V21x0 (n : Nt) : G.T → G.T → Rt := fun x0 x1 => n [yR 3 x0, yR 3 x1]
def B21x1 (c : TC0) (a4 : Bool) : Rt :=
 some [yB a4]
def V21x1 (n : Nt) : Bool → Rt := fun x0 => n [yB x0]
def X21x1 := V21x1 (xD ii21 e [1, 1, 0] aEE (q21x0 c e))
theorem s21x0 : V21x0 (xF ii21 c e) = B21x0 c (X21x1 c e) := by kernel_rfl
theorem s21x1 : V21x1 (xA ii21 c e [1, 1, 0] aEE (q21x0 c e)) = B21x1 c := by kernel_rfl
def J21x1 (c : TC0) (L : Nat) : Bool → Rt := B21x1 c
theorem j21x1 : X21x1 c (cu c L) = J21x1 c L := by rw [X21x1, aY, s21x1]; rfl
def F21 (c : TC0) (L : Nat) : G.T → G.T → Rt := B21x0 c (J21x1 c L)
theorem e21 : V21x0 (xF ii21 c (cu c L)) = F21 c L := by rw [s21x0]; simp only [j21x1]; rfl
theorem c21 (a0 : G.T) (a1 : G.T) (L n : Nat) : CTp L (n + 1) 21 [yR 3 a0, yR 3 a1] = F21 (CTp L n) L a0 a1 := by rw [← e21]; exact cg (x := ii21) (by kernel_rfl) (by kernel_rfl) L n _
def q22x0 (c : TC0) (e : Cu) : Kt := xK xJ
def q22x1 (c : TC0) (e : Cu) : Kt := xT xJ c e [1, 1] (q22x0 c e)
def q22x2 (c : TC0) (e : Cu) : Kt := dD U0 0 (q22x1 c e)
def q22x3 (c : TC0) (e : Cu) (n1 : Nt) : Kt := lpK U0 qJ n1 (q22x2 c e)
def q22x4 (c : TC0) (e : Cu) (n1 : Nt) : Kt := xT xJ c e [1, 0, 1, 0, 0, 1] (q22x3 c e n1)
def q22x5 (c : TC0) (e : Cu) (n1 : Nt) : Kt := xT xJ c e [1, 0, 1, 0, 0, 1, 1] (q22x3 c e n1)
def q22x6 (c : TC0) (e : Cu) (n1 : Nt) : Kt := dD U0 1 (q22x5 c e n1)
def B22x0 (c : TC0) (e1 : Int → List G.T → Int → G.T → Rt) (a0 : List G.T) (a1 : Int) (a2 : G.T) : Rt :=
 e1 a1 a0 (0 : Int) a2
def V22x0 (n : Nt) : List G.T → Int → G.T → Rt := fun x0 x1 x2 => n [yS 3 x0, yI x1, yR 3 x2]
def aCn (c : TC0) (k2 : Bool → Int → Int → List G.T → G.T → Rt) (a1 : Int) (a0 : List G.T) (a7 : Int) (b105 : G.T) : Rt :=
 cnd (decide (a7 < (List.length a0 : Int))) (k2 (decide (b105.kind = (3 : Int))) a7 a1 a0 b105) (k2 false a7 a1 a0 b105)
def aCg (n : Nt) : Int → List G.T → Int → G.T → Rt := fun x0 x1 x2 x3 => n [yI x0, yS 3 x1, yI x2, yR 3 x3]
def X22x1 := aCg (xE xJ e [1, 0, 1, 0, 0] qJ (q22x2 c e))
def aFD (c : TC0) (k3 : Bool → Int → Int → List G.T → G.T → Rt) (a16 : Bool) (a7 : Int) (a1 : Int) (a0 : List G.T) (b105 : G.T) : Rt :=
 cnd a16 (cnd (!decide (a7 = a1)) (ob (idx a0 a7) fun v0 =>
 obL [.bool] (c 54 [yR 3 b105, yR 3 v0]) fun (r1 : Bool × Unit) =>
 k3 r1.1 a7 a1 a0 b105) (k3 false a7 a1 a0 b105)) (some [yB false])
def V22x2 (n : Nt) : Bool → Int → Int → List G.T → G.T → Rt := fun x0 x1 x2 x3 x4 => n [yB x0, yI x1, yI x2, yS 3 x3, yR 3 x4]
def X22x2 (n1 : Nt) := V22x2 (xD xJ e [1, 0, 1, 0, 0, 0, 1, 0] aED (q22x4 c e n1))
def B22x3 (c : TC0) (n1 : Int → List G.T → Int → G.T → Rt) (a29 : Bool) (a7 : Int) (a1 : Int) (a0 : List G.T) (b105 : G.T) : Rt :=
 cnd a29 (some [yB true]) (n1 a1 a0 (IntKind.i64.wrap (a7 + (1 : Int))) b105)
def V22x3 (n : Nt) : Bool → Int → Int → List G.T → G.T → Rt := fun x0 x1 x2 x3 x4 => n [yB x0, yI x1, yI x2, yS 3 x3, yR 3 x4]
def X22x3 (n1 : Nt) := V22x3 (xD xJ e [1, 0, 1, 0, 0, 1, 0, 0, 1, 0] aEC (q22x6 c e n1))
theorem s22x0 : V22x0 (xF xJ c e) = B22x0 c (X22x1 c e) := by kernel_rfl
theorem s22x1 (n1 : Nt) : aCg (xA xJ c e [1, 0, 1, 0, 0] qJ (lpK U0 qJ n1 (q22x2 c e))) = aCn c (X22x2 c e n1) := by kernel_rfl
theorem s22x2 (n1 : Nt) : V22x2 (xA xJ c e [1, 0, 1, 0, 0, 0, 1, 0] aED (q22x4 c e n1)) = aFD c (X22x3 c e n1) := by kernel_rfl
theorem s22x3 (n1 : Nt) : V22x3 (xA xJ c e [1, 0, 1, 0, 0, 1, 0, 0, 1, 0] aEC (q22x6 c e n1)) = B22x3 c (aCg n1) := by kernel_rfl
def aFs (c : TC0) (L : Nat) (n1 : Int → List G.T → Int → G.T → Rt) : Bool → Int → Int → List G.T → G.T → Rt := B22x3 c n1
theorem j22x3 (n1 : Nt) : X22x3 c (cu c L) n1 = aFs c L (aCg n1) := by rw [X22x3, aY, s22x3]; rfl
def aCj (c : TC0) (L : Nat) (n1 : Int → List G.T → Int → G.T → Rt) : Bool → Int → Int → List G.T → G.T → Rt := aFD c (aFs c L n1)
theorem j22x2 (n1 : Nt) : X22x2 c (cu c L) n1 = aCj c L (aCg n1) := by rw [X22x2, aY, s22x2]; simp only [j22x3]; rfl
def sO (c : TC0) (L : Nat) : Nat → Int → List G.T → Int → G.T → Rt
 | 0 => fun _ _ _ _ => none
 | n + 1 => aCn c (aCj c L (sO c L n))
theorem u22x1 (n : Nat) : aCg (xL xJ c L [1, 0, 1, 0, 0] qJ (q22x2 c (cu c L)) n) = sO c L n := by
 induction n with
 | zero => rfl
 | succ n ih => rw [gW, s22x1]; simp only [j22x2, ih]; rfl
theorem w22x1 : X22x1 c (cu c L) = sO c L L := u22x1 c L L
def F22 (c : TC0) (L : Nat) : List G.T → Int → G.T → Rt := B22x0 c (sO c L L)
theorem e22 : V22x0 (xF xJ c (cu c L)) = F22 c L := by rw [s22x0]; simp only [w22x1]; rfl
theorem c22 (a0 : List G.T) (a1 : Int) (a2 : G.T) (L n : Nat) : CTp L (n + 1) 22 [yS 3 a0, yI a1, yR 3 a2] = F22 (CTp L n) L a0 a1 a2 := by rw [← e22]; exact cg (x := xJ) (by kernel_rfl) (by kernel_rfl) L n _
def B25x0 (c : TC0) : Rt :=
 obL [zS 5] (c 55 []) fun (r0 : List G.A × Unit) =>
 obL [.str] (c 56 []) fun (r1 : List UInt8 × Unit) =>
 obL [zS 2, .rc 17] (c 57 [yS 5 r0.1, yT ([108, 105, 115, 112] : List UInt8), yT r1.1]) fun (r2 : List G.O × G.X × Unit) =>
 some [yS 2 r2.1]
def V25x0 (n : Nt) : Rt := n []
theorem s25x0 : V25x0 (xF ii25 c e) = B25x0 c := by kernel_rfl
def F25 (c : TC0) (L : Nat) : Rt := B25x0 c
theorem e25 : V25x0 (xF ii25 c (cu c L)) = F25 c L := s25x0 _ _
theorem c25 (L n : Nat) : CTp L (n + 1) 25 [] = F25 (CTp L n) L := by rw [← e25]; exact cg (x := ii25) (by kernel_rfl) (by kernel_rfl) L n _
def B27x0 (c : TC0) (a0 : List UInt8) : Rt :=
 some [yR 1 (G.Y.mk ([108, 105, 115, 112] : List UInt8) a0)]
def V27x0 (n : Nt) : List UInt8 → Rt := fun x0 => n [yT x0]
theorem s27x0 : V27x0 (xF ii27 c e) = B27x0 c := by kernel_rfl
def F27 (c : TC0) (L : Nat) : List UInt8 → Rt := B27x0 c
theorem e27 : V27x0 (xF ii27 c (cu c L)) = F27 c L := s27x0 _ _
theorem c27 (a0 : List UInt8) (L n : Nat) : CTp L (n + 1) 27 [yT a0] = F27 (CTp L n) L a0 := by rw [← e27]; exact cg (x := ii27) (by kernel_rfl) (by kernel_rfl) L n _
def q39x0 (c : TC0) (e : Cu) : Kt := xK rY
def q39x1 (c : TC0) (e : Cu) : Kt := xT rY c e [1, 1, 1] (q39x0 c e)
def q39x2 (c : TC0) (e : Cu) : Kt := xT rY c e [1, 1, 1, 0, 1] (q39x0 c e)
def aC9 (c : TC0) (e : Cu) : Kt := dD U0 0 (q39x2 c e)
def q39x4 (c : TC0) (e : Cu) : Kt := xT rY c e [1, 1, 1, 0, 0, 1, 0, 1, 1, 1, 1, 1, 0, 1, 1, 1, 1, 1, 1, 1, 1, 1, 1, 1, 1, 1, 1, 0, 0, 1, 1, 1] (aC9 c e)
def q39x5 (c : TC0) (e : Cu) : Kt := dD U0 1 (q39x4 c e)
def B39x0 (c : TC0) (k1 : Bool → Int → Int → G.Z → G.O → Rt) (a1 : Int) (b0 : G.Z) : Rt :=
 obL [i6, .rc 0] (c 14 [yI (14 : Int), yR 0 b0]) fun (r0 : Int × G.Z × Unit) =>
 cnd (decide (a1 < (1 : Int))) (k1 (decide ((9 : Int) < r0.1)) r0.1 a1 r0.2.1 (G.O.mk (0 : Int) ([] : List UInt8) ([] : List UInt8) (G.Y.mk ([] : List UInt8) ([] : List UInt8)) ([] : List UInt8) ([] : List G.O))) (k1 false r0.1 a1 r0.2.1 (G.O.mk (0 : Int) ([] : List UInt8) ([] : List UInt8) (G.Y.mk ([] : List UInt8) ([] : List UInt8)) ([] : List UInt8) ([] : List G.O)))
def V39x0 (n : Nt) : Int → G.Z → Rt := fun x0 x1 => n [yI x0, yR 0 x1]
def B39x1 (c : TC0) (k2 : Int → Int → G.Z → G.O → Rt) (a17 : Bool) (a5 : Int) (a1 : Int) (b0 : G.Z) (b104 : G.O) : Rt :=
 cnd a17 (k2 (IntKind.i64.wrap (a5 - (8 : Int))) a1 b0 b104) (k2 a5 a1 b0 b104)
def V39x1 (n : Nt) : Bool → Int → Int → G.Z → G.O → Rt := fun x0 x1 x2 x3 x4 => n [yB x0, yI x1, yI x2, yR 0 x3, yR 2 x4]
def X39x1 := V39x1 (xD rY e [1, 1, 0, 1, 0] aEA (q39x1 c e))
def B39x2 (c : TC0) (k3 : Bool → Int → Int → G.Z → G.O → Rt) (a5 : Int) (a1 : Int) (b0 : G.Z) (b104 : G.O) : Rt :=
 cnd (decide (a5 = (0 : Int))) (obL [.rc 2] (c 63 []) fun (r0 : G.O × Unit) =>
 some [yR 2 r0.1, yR 0 b0]) (cnd (decide (a5 = (1 : Int))) (obL [.rc 2] (c 59 []) fun (r1 : G.O × Unit) =>
 some [yR 2 r1.1, yR 0 b0]) (cnd (decide (a5 = (2 : Int))) (k3 (decide (a5 = (2 : Int))) a5 a1 b0 b104) (k3 (decide (a5 = (3 : Int))) a5 a1 b0 b104)))
def V39x2 (n : Nt) : Int → Int → G.Z → G.O → Rt := fun x0 x1 x2 x3 => n [yI x0, yI x1, yR 0 x2, yR 2 x3]
def X39x2 := V39x2 (xD rY e [1, 1, 1, 0] aEz (q39x0 c e))
def B39x3 (c : TC0) (k4 : Bool → Int → G.Z → G.O → Rt) (a27 : Bool) (a20 : Int) (a1 : Int) (b0 : G.Z) (b104 : G.O) : Rt :=
 cnd a27 (obL [i6, .rc 0] (c 14 [yI (7 : Int), yR 0 b0]) fun (r0 : Int × G.Z × Unit) =>
 obL [.rc 2] (c 64 [yI (IntKind.i64.wrap (r0.1 - (3 : Int)))]) fun (r1 : G.O × Unit) =>
 some [yR 2 r1.1, yR 0 r0.2.1]) (cnd (decide (a20 = (4 : Int))) (obL [.rc 2] (c 66 [yT ([49] : List UInt8), yT ([50] : List UInt8)]) fun (r2 : G.O × Unit) =>
 some [yR 2 r2.1, yR 0 b0]) (cnd (decide (a20 = (5 : Int))) (obL [.rc 2] (c 66 [yT ([45, 53] : List UInt8), yT ([51] : List UInt8)]) fun (r3 : G.O × Unit) =>
 some [yR 2 r3.1, yR 0 b0]) (cnd (decide (a20 = (6 : Int))) (obL [i6, .rc 0] (c 14 [yI (3 : Int), yR 0 b0]) fun (r4 : Int × G.Z × Unit) =>
 ob (slc ([97, 98, 99] : List UInt8) r4.1 (List.length ([97, 98, 99] : List UInt8) : Int)) fun v5 =>
 ob (slc v5 (0 : Int) (1 : Int)) fun v6 =>
 obL [.rc 1] (c 11 [yT v6]) fun (r7 : G.Y × Unit) =>
 obL [.rc 2] (c 67 [yR 1 r7.1]) fun (r8 : G.O × Unit) =>
 some [yR 2 r8.1, yR 0 r4.2.1]) (cnd (decide (a20 = (7 : Int))) (obL [i6, .rc 0] (c 14 [yI (3 : Int), yR 0 b0]) fun (r9 : Int × G.Z × Unit) =>
 ob (slc ([112, 113] : List UInt8) (0 : Int) r9.1) fun v10 =>
 obL [.rc 2] (c 68 [yT v10]) fun (r11 : G.O × Unit) =>
 some [yR 2 r11.1, yR 0 r9.2.1]) (cnd (decide (a20 = (8 : Int))) (obL [.rc 2] (c 64 [yI (0 : Int)]) fun (r12 : G.O × Unit) =>
 some [yR 2 r12.1, yR 0 b0]) (cnd (decide (a20 = (9 : Int))) (obL [.rc 2] (c 64 [yI (1 : Int)]) fun (r13 : G.O × Unit) =>
 some [yR 2 r13.1, yR 0 b0]) (cnd (decide (a20 = (10 : Int))) (k4 (decide (a20 = (10 : Int))) a1 b0 b104) (cnd (decide (a20 = (11 : Int))) (k4 (decide (a20 = (11 : Int))) a1 b0 b104) (k4 (decide (a20 = (12 : Int))) a1 b0 b104)))))))))
def V39x3 (n : Nt) : Bool → Int → Int → G.Z → G.O → Rt := fun x0 x1 x2 x3 x4 => n [yB x0, yI x1, yI x2, yR 0 x3, yR 2 x4]
def X39x3 := V39x3 (xD rY e [1, 1, 1, 0, 0, 1, 0, 1, 1, 1, 1, 1, 0] aEy (aC9 c e))
def B39x4 (c : TC0) (e5 : Int → Int → Int → List G.O → G.Z → G.O → Rt) (a60 : Bool) (a1 : Int) (b0 : G.Z) (b104 : G.O) : Rt :=
 cnd a60 (obL [i6, .rc 0] (c 14 [yI (4 : Int), yR 0 b0]) fun (r0 : Int × G.Z × Unit) =>
 e5 r0.1 a1 (0 : Int) ([] : List G.O) r0.2.1 b104) (obL [.rc 2, .rc 0] (c 39 [yI (IntKind.i64.wrap (a1 - (1 : Int))), yR 0 b0]) fun (r1 : G.O × G.Z × Unit) =>
 obL [.rc 2, .rc 0] (c 39 [yI (IntKind.i64.wrap (a1 - (1 : Int))), yR 0 r1.2.1]) fun (r2 : G.O × G.Z × Unit) =>
 obL [.rc 2] (c 69 [yR 2 r1.1, yR 2 r2.1]) fun (r3 : G.O × Unit) =>
 some [yR 2 r3.1, yR 0 r2.2.1])
def V39x4 (n : Nt) : Bool → Int → G.Z → G.O → Rt := fun x0 x1 x2 x3 => n [yB x0, yI x1, yR 0 x2, yR 2 x3]
def X39x4 := V39x4 (xD rY e [1, 1, 1, 0, 0, 1, 0, 1, 1, 1, 1, 1, 0, 1, 1, 1, 1, 1, 1, 1, 1, 1, 1, 1, 1, 1, 1, 0] aEx (aC9 c e))
def B39x5 (c : TC0) (n5 : Int → Int → Int → List G.O → G.Z → G.O → Rt) (a7 : Int) (a1 : Int) (a8 : Int) (a6 : List G.O) (b0 : G.Z) (b104 : G.O) : Rt :=
 cnd (decide (a8 < a7)) (obL [.rc 2, .rc 0] (c 39 [yI (IntKind.i64.wrap (a1 - (1 : Int))), yR 0 b0]) fun (r0 : G.O × G.Z × Unit) =>
 chk (Nat.ble ((List.length a6 + List.length ([r0.1] : List G.O)) * 112) 1073741824) <|
 n5 a7 a1 (IntKind.i64.wrap (a8 + (1 : Int))) (a6 ++ ([r0.1] : List G.O)) r0.2.1 b104) (obL [.rc 2] (c 70 [yS 2 a6]) fun (r1 : G.O × Unit) =>
 some [yR 2 r1.1, yR 0 b0])
def V39x5 (n : Nt) : Int → Int → Int → List G.O → G.Z → G.O → Rt := fun x0 x1 x2 x3 x4 x5 => n [yI x0, yI x1, yI x2, yS 2 x3, yR 0 x4, yR 2 x5]
def X39x5 := V39x5 (xE rY e [1, 1, 1, 0, 0, 1, 0, 1, 1, 1, 1, 1, 0, 1, 1, 1, 1, 1, 1, 1, 1, 1, 1, 1, 1, 1, 1, 0, 0, 1, 1, 0, 1, 0, 0] vA (q39x5 c e))
theorem s39x0 : V39x0 (xF rY c e) = B39x0 c (X39x1 c e) := by kernel_rfl
theorem s39x1 : V39x1 (xA rY c e [1, 1, 0, 1, 0] aEA (q39x1 c e)) = B39x1 c (X39x2 c e) := by kernel_rfl
theorem s39x2 : V39x2 (xA rY c e [1, 1, 1, 0] aEz (q39x0 c e)) = B39x2 c (X39x3 c e) := by kernel_rfl
theorem s39x3 : V39x3 (xA rY c e [1, 1, 1, 0, 0, 1, 0, 1, 1, 1, 1, 1, 0] aEy (aC9 c e)) = B39x3 c (X39x4 c e) := by kernel_rfl
theorem s39x4 : V39x4 (xA rY c e [1, 1, 1, 0, 0, 1, 0, 1, 1, 1, 1, 1, 0, 1, 1, 1, 1, 1, 1, 1, 1, 1, 1, 1, 1, 1, 1, 0] aEx (aC9 c e)) = B39x4 c (X39x5 c e) := by kernel_rfl
theorem s39x5 (n5 : Nt) : V39x5 (xA rY c e [1, 1, 1, 0, 0, 1, 0, 1, 1, 1, 1, 1, 0, 1, 1, 1, 1, 1, 1, 1, 1, 1, 1, 1, 1, 1, 1, 0, 0, 1, 1, 0, 1, 0, 0] vA (lpK U0 vA n5 (q39x5 c e))) = B39x5 c (V39x5 n5) := by kernel_rfl
def zL (c : TC0) (L : Nat) : Nat → Int → Int → Int → List G.O → G.Z → G.O → Rt
 | 0 => fun _ _ _ _ _ _ => none
 | n + 1 => B39x5 c (zL c L n)
theorem u39x5 (n : Nat) : V39x5 (xL rY c L [1, 1, 1, 0, 0, 1, 0, 1, 1, 1, 1, 1, 0, 1, 1, 1, 1, 1, 1, 1, 1, 1, 1, 1, 1, 1, 1, 0, 0, 1, 1, 0, 1, 0, 0] vA (q39x5 c (cu c L)) n) = zL c L n := by
 induction n with
 | zero => rfl
 | succ n ih => rw [gW, s39x5]; simp only [ih]; rfl
theorem w39x5 : X39x5 c (cu c L) = zL c L L := u39x5 c L L
def aCh (c : TC0) (L : Nat) : Bool → Int → G.Z → G.O → Rt := B39x4 c (zL c L L)
theorem j39x4 : X39x4 c (cu c L) = aCh c L := by rw [X39x4, aY, s39x4]; simp only [w39x5]; rfl
def J39x3 (c : TC0) (L : Nat) : Bool → Int → Int → G.Z → G.O → Rt := B39x3 c (aCh c L)
theorem j39x3 : X39x3 c (cu c L) = J39x3 c L := by rw [X39x3, aY, s39x3]; simp only [j39x4]; rfl
def aFr (c : TC0) (L : Nat) : Int → Int → G.Z → G.O → Rt := B39x2 c (J39x3 c L)
theorem j39x2 : X39x2 c (cu c L) = aFr c L := by rw [X39x2, aY, s39x2]; simp only [j39x3]; rfl
def aCi (c : TC0) (L : Nat) : Bool → Int → Int → G.Z → G.O → Rt := B39x1 c (aFr c L)
theorem j39x1 : X39x1 c (cu c L) = aCi c L := by rw [X39x1, aY, s39x1]; simp only [j39x2]; rfl
def F39 (c : TC0) (L : Nat) : Int → G.Z → Rt := B39x0 c (aCi c L)
theorem e39 : V39x0 (xF rY c (cu c L)) = F39 c L := by rw [s39x0]; simp only [j39x1]; rfl
theorem c39 (a1 : Int) (b0 : G.Z) (L n : Nat) : CTp L (n + 1) 39 [yI a1, yR 0 b0] = F39 (CTp L n) L a1 b0 := by rw [← e39]; exact cg (x := rY) (by kernel_rfl) (by kernel_rfl) L n _
def B41x0 (c : TC0) : Rt :=
 some [⟨(.sl .str), ([([99, 97, 114] : List UInt8), ([99, 100, 114] : List UInt8), ([99, 111, 110, 115] : List UInt8), ([99, 111, 110, 115, 112] : List UInt8), ([110, 111, 116] : List UInt8), ([101, 113, 117, 97, 108] : List UInt8), ([105, 102] : List UInt8), ([98, 105, 110, 97, 114, 121, 45, 43] : List UInt8), ([60] : List UInt8), ([105, 110, 116, 101, 103, 101, 114, 112] : List UInt8), ([108, 101, 110] : List UInt8), ([98, 105, 110, 97, 114, 121, 45, 97, 112, 112, 101, 110, 100] : List UInt8), ([114, 101, 118] : List UInt8), ([116, 114, 117, 101, 45, 108, 105, 115, 116, 112] : List UInt8), ([110, 97, 116, 112] : List UInt8), ([112, 111, 115, 112] : List UInt8), ([117, 110, 97, 114, 121, 45, 45] : List UInt8), ([98, 105, 110, 97, 114, 121, 45, 42] : List UInt8), ([105, 109, 112, 108, 105, 101, 115] : List UInt8), ([115, 121, 109, 98, 111, 108, 112] : List UInt8), ([114, 97, 116, 105, 111, 110, 97, 108, 112] : List UInt8), ([102, 105, 120] : List UInt8), ([105, 102, 102] : List UInt8), ([110, 102, 105, 120] : List UInt8), ([122, 112] : List UInt8)] : List (List UInt8))⟩]
def V41x0 (n : Nt) : Rt := n []
theorem s41x0 : V41x0 (xF ii41 c e) = B41x0 c := by kernel_rfl
def F41 (c : TC0) (L : Nat) : Rt := B41x0 c
theorem e41 : V41x0 (xF ii41 c (cu c L)) = F41 c L := s41x0 _ _
theorem c41 (L n : Nat) : CTp L (n + 1) 41 [] = F41 (CTp L n) L := by rw [← e41]; exact cg (x := ii41) (by kernel_rfl) (by kernel_rfl) L n _
def B42x0 (c : TC0) : Rt :=
 some [⟨(.sl .str), ([([100, 117, 98] : List UInt8), ([115, 97, 109, 101, 45, 108, 101, 110] : List UInt8), ([112, 97, 105, 114, 115] : List UInt8), ([100, 117, 98, 115] : List UInt8), ([116, 114, 101, 101] : List UInt8), ([101, 118, 101, 110, 115] : List UInt8), ([111, 100, 100, 115] : List UInt8), ([120, 111, 114, 50] : List UInt8)] : List (List UInt8))⟩]
def V42x0 (n : Nt) : Rt := n []
theorem s42x0 : V42x0 (xF ii42 c e) = B42x0 c := by kernel_rfl
def F42 (c : TC0) (L : Nat) : Rt := B42x0 c
theorem e42 : V42x0 (xF ii42 c (cu c L)) = F42 c L := s42x0 _ _
theorem c42 (L n : Nat) : CTp L (n + 1) 42 [] = F42 (CTp L n) L := by rw [← e42]; exact cg (x := ii42) (by kernel_rfl) (by kernel_rfl) L n _
def B44x0 (c : TC0) (a0 : List G.E) (a1 : G.Y) : Rt :=
 obL [i6, .bool] (c 71 [yR 1 a1]) fun (r0 : Int × Bool × Unit) =>
 cnd r0.2.1 (some [yI r0.1, yB true]) (obL [.rc 4, .bool] (c 72 [yS 15 a0, yR 1 a1]) fun (r1 : G.F × Bool × Unit) =>
 cnd (!r1.2.1) (some [yI (0 : Int), yB false]) (some [yI (List.length r1.1.params : Int), yB true]))
def V44x0 (n : Nt) : List G.E → G.Y → Rt := fun x0 x1 => n [yS 15 x0, yR 1 x1]
theorem s44x0 : V44x0 (xF ii44 c e) = B44x0 c := by kernel_rfl
def F44 (c : TC0) (L : Nat) : List G.E → G.Y → Rt := B44x0 c
theorem e44 : V44x0 (xF ii44 c (cu c L)) = F44 c L := s44x0 _ _
theorem c44 (a0 : List G.E) (a1 : G.Y) (L n : Nat) : CTp L (n + 1) 44 [yS 15 a0, yR 1 a1] = F44 (CTp L n) L a0 a1 := by rw [← e44]; exact cg (x := ii44) (by kernel_rfl) (by kernel_rfl) L n _
def q45x0 (c : TC0) (e : Cu) : Kt := xK ii45
def q45x1 (c : TC0) (e : Cu) : Kt := xT ii45 c e [1, 1, 1] (q45x0 c e)
def q45x2 (c : TC0) (e : Cu) : Kt := dD U0 0 (q45x1 c e)
def B45x0 (c : TC0) (k1 : Bool → Int → List G.E → Int → G.Z → G.T → G.T → Rt) (a1 : List G.E) (a2 : Int) (b0 : G.Z) : Rt :=
 obL [.rc 3, .rc 0] (c 12 [yS 15 a1, yI a2, yR 0 b0]) fun (r0 : G.T × G.Z × Unit) =>
 obL [i6, .rc 0] (c 14 [yI (8 : Int), yR 0 r0.2.1]) fun (r1 : Int × G.Z × Unit) =>
 cnd (decide (r1.1 = (0 : Int))) (k1 (decide (r1.1 = (0 : Int))) r1.1 a1 a2 r1.2.1 r0.1 (G.T.mk (0 : Int) (G.Y.mk ([] : List UInt8) ([] : List UInt8)) (G.O.mk (0 : Int) ([] : List UInt8) ([] : List UInt8) (G.Y.mk ([] : List UInt8) ([] : List UInt8)) ([] : List UInt8) ([] : List G.O)) ([] : List G.T))) (k1 (decide (r1.1 = (1 : Int))) r1.1 a1 a2 r1.2.1 r0.1 (G.T.mk (0 : Int) (G.Y.mk ([] : List UInt8) ([] : List UInt8)) (G.O.mk (0 : Int) ([] : List UInt8) ([] : List UInt8) (G.Y.mk ([] : List UInt8) ([] : List UInt8)) ([] : List UInt8) ([] : List G.O)) ([] : List G.T)))
def V45x0 (n : Nt) : List G.E → Int → G.Z → Rt := fun x0 x1 x2 => n [yS 15 x0, yI x1, yR 0 x2]
def B45x1 (c : TC0) (a14 : Bool) (a13 : Int) (a1 : List G.E) (a2 : Int) (b0 : G.Z) (b107 : G.T) (b106 : G.T) : Rt :=
 cnd a14 (obL [.rc 3] (c 7 [yT ([110, 111, 116] : List UInt8), yS 3 ([b107] : List G.T)]) fun (r0 : G.T × Unit) =>
 some [yR 3 r0.1, yR 0 b0]) (cnd (decide (a13 = (2 : Int))) (obL [.rc 3, .rc 0] (c 12 [yS 15 a1, yI (IntKind.i64.wrap (a2 - (1 : Int))), yR 0 b0]) fun (r1 : G.T × G.Z × Unit) =>
 obL [.rc 3] (c 7 [yT ([101, 113, 117, 97, 108] : List UInt8), yS 3 ([b107, r1.1] : List G.T)]) fun (r2 : G.T × Unit) =>
 obL [.rc 3] (c 7 [yT ([110, 111, 116] : List UInt8), yS 3 ([r2.1] : List G.T)]) fun (r3 : G.T × Unit) =>
 some [yR 3 r3.1, yR 0 r1.2.1]) (cnd (decide (a13 = (3 : Int))) (obL [.rc 3, .rc 0] (c 15 [yR 0 b0]) fun (r4 : G.T × G.Z × Unit) =>
 obL [.rc 3] (c 7 [yT ([99, 111, 110, 115, 112] : List UInt8), yS 3 ([r4.1] : List G.T)]) fun (r5 : G.T × Unit) =>
 obL [.rc 3] (c 7 [yT ([110, 111, 116] : List UInt8), yS 3 ([r5.1] : List G.T)]) fun (r6 : G.T × Unit) =>
 some [yR 3 r6.1, yR 0 r4.2.1]) (cnd (decide (a13 = (4 : Int))) (obL [.rc 3, .rc 0] (c 12 [yS 15 a1, yI (IntKind.i64.wrap (a2 - (1 : Int))), yR 0 b0]) fun (r7 : G.T × G.Z × Unit) =>
 obL [.rc 3] (c 7 [yT ([101, 113, 117, 97, 108] : List UInt8), yS 3 ([b107, r7.1] : List G.T)]) fun (r8 : G.T × Unit) =>
 some [yR 3 r8.1, yR 0 r7.2.1]) (cnd (decide (a13 = (5 : Int))) (obL [.rc 3, .rc 0] (c 15 [yR 0 b0]) fun (r9 : G.T × G.Z × Unit) =>
 obL [.rc 3, .rc 0] (c 12 [yS 15 a1, yI (IntKind.i64.wrap (a2 - (1 : Int))), yR 0 r9.2.1]) fun (r10 : G.T × G.Z × Unit) =>
 obL [.rc 3] (c 7 [yT ([60] : List UInt8), yS 3 ([r9.1, r10.1] : List G.T)]) fun (r11 : G.T × Unit) =>
 obL [.rc 3] (c 7 [yT ([110, 111, 116] : List UInt8), yS 3 ([r11.1] : List G.T)]) fun (r12 : G.T × Unit) =>
 some [yR 3 r12.1, yR 0 r10.2.1]) (some [yR 3 b107, yR 0 b0])))))
def V45x1 (n : Nt) : Bool → Int → List G.E → Int → G.Z → G.T → G.T → Rt := fun x0 x1 x2 x3 x4 x5 x6 => n [yB x0, yI x1, yS 15 x2, yI x3, yR 0 x4, yR 3 x5, yR 3 x6]
def X45x1 := V45x1 (xD ii45 e [1, 1, 0, 1, 0, 1, 0] aEw (q45x2 c e))
theorem s45x0 : V45x0 (xF ii45 c e) = B45x0 c (X45x1 c e) := by kernel_rfl
theorem s45x1 : V45x1 (xA ii45 c e [1, 1, 0, 1, 0, 1, 0] aEw (q45x2 c e)) = B45x1 c := by kernel_rfl
def J45x1 (c : TC0) (L : Nat) : Bool → Int → List G.E → Int → G.Z → G.T → G.T → Rt := B45x1 c
theorem j45x1 : X45x1 c (cu c L) = J45x1 c L := by rw [X45x1, aY, s45x1]; rfl
def F45 (c : TC0) (L : Nat) : List G.E → Int → G.Z → Rt := B45x0 c (J45x1 c L)
theorem e45 : V45x0 (xF ii45 c (cu c L)) = F45 c L := by rw [s45x0]; simp only [j45x1]; rfl
theorem c45 (a1 : List G.E) (a2 : Int) (b0 : G.Z) (L n : Nat) : CTp L (n + 1) 45 [yS 15 a1, yI a2, yR 0 b0] = F45 (CTp L n) L a1 a2 b0 := by rw [← e45]; exact cg (x := ii45) (by kernel_rfl) (by kernel_rfl) L n _
end
end Go.TV
namespace Go.TV
open Go.AI Go.PI Go.Proofs
theorem qZ {P : G.T → Prop} (h : ∀ k n v l, (∀ o ∈ l, P o) → P ⟨k, n, v, l⟩) : ∀ o, P o := fun o =>
 G.T.rec (motive_1 := P) (motive_2 := fun l => ∀ o ∈ l, P o) (fun k n v l ih => h k n v l ih) (fun o ho => by cases ho)
  (fun o l h1 h2 x hx => by
   cases hx with
   | head => exact h1
   | tail _ hx => exact h2 x hx) o
noncomputable instance : DecidableEq G.T := fun a b => Classical.propDecidable _
mutual
def tsz : G.T → Nat
 | ⟨_, _, v, l⟩ => 4 + osz v + cI l
def cI : List G.T → Nat
 | [] => 0
 | o :: l => tsz o + cI l + 1
end
theorem dP : ∀ (l : List G.T), l.length ≤ cI l
 | [] => nlR _
 | o :: l => by have := dP l; simp only [lcS, cI]; omega
theorem bI : ∀ {l : List G.T} {x : G.T}, x ∈ l → tsz x ≤ cI l
 | o :: l, x, h => by
  simp only [cI]
  cases h with
  | head => omega
  | tail _ h => have := bI h; omega
def tt2 (a b : G.T) : TVs := [yR 3 a, yR 3 b]
def ll2 (a b : List G.T) : TVs := [yS 3 a, yS 3 b]
def wfT (a : G.T) : Prop := tsz a < 1000000000
theorem EqA_loop {c : TC0} {L : Nat} {a b : List G.T} (hl : a.length = b.length) (hb : a.length < 1000000000) : ∀ (l r : List G.T) (k m : Nat), a.drop k = l → b.drop k = r → l.length < m →
    (∀ x, x ∈ l → ∀ y, c 21 (tt2 x y) = some (bb (decide (x = y)))) → zG c L m a b (k : Int) = some (bb (decide (l = r))) := by
 intro l
 induction l with
 | nil =>
  intro r k m h1 h2 h3 _
  obtain ⟨m, rfl⟩ : ∃ m', m = m' + 1 := ⟨m - 1, by simp at h3; omega⟩
  have e1 := aW h1
  have e2 : r = [] := by rw [← h2]; exact List.drop_eq_nil_of_le (by omega)
  have e3 : decide ((k : Int) < (a.length : Int)) = false := by simp; omega
  rw [zG, B53x1, e3, e2]
  simp only [aH, decide_true]; rfl
 | cons x l ih =>
  intro r k m h1 h2 h3 hc
  obtain ⟨m, rfl⟩ : ∃ m', m = m' + 1 := ⟨m - 1, by simp at h3; omega⟩
  obtain ⟨a1, a2, a3⟩ := aV h1
  cases r with
  | nil => have := aW h2; omega
  | cons y r =>
   obtain ⟨b1, b2, b3⟩ := aV h2
   have e3 : decide ((k : Int) < (a.length : Int)) = true := by simp; omega
   have hxy : c 21 [yR 3 x, yR 3 y] = some [yB (decide (x = y))] := hc x (mhE ..) y
   rw [zG, B53x1, e3, aI, aL, aL, a1, b1, dE, dE, hxy, cY, dF (by omega)]
   by_cases e : x = y
   ·subst e
    simp only [decide_true, bnT, aH]
    rw [ih r (k + 1) m a3 b3 (by simp at h3; omega) fun z hz => hc z (mtE _ hz)]
    simp
   ·simp only [e, decide_false, Bool.not_false, aI]
    simp [e, bb]
theorem EqAll_of {a b : List G.T} {L n : Nat} (hw : a.length < 1000000000) (hL : a.length < L) (hx : ∀ x, x ∈ a → ∀ y, CTp L n 21 (tt2 x y) = some (bb (decide (x = y)))) :
    CTp L (n + 1) 53 (ll2 a b) = some (bb (decide (a = b))) := by
 show CTp L (n + 1) 53 [yS 3 _, yS 3 _] = _
 rw [c53]
 simp only [F53, B53x0]
 by_cases e6 : (a.length : Int) = (b.length : Int)
 ·simp only [e6, decide_true, bnT, aH]
  exact EqA_loop (c := CTp L n) (L := L) (by omega) hw a b 0 L rfl rfl hL hx
 ·have e7 : ¬ a = b := fun h => e6 (by rw [h])
  simp [e6, e7, cnd, bb]
theorem aFB : ∀ (a : G.T), wfT a → ∀ (b : G.T) (L n : Nat), tsz a ≤ L → tsz a ≤ n → CTp L n 21 (tt2 a b) = some (bb (decide (a = b))) := by
 intro a
 induction a using qZ with
 | h k nm v l ih =>
  intro hw b L n hL hn
  simp only [wfT, tsz] at hw hL hn
  have hlen := dP l
  obtain ⟨n, rfl⟩ : ∃ n', n = n' + 2 := ⟨n - 2, by omega⟩
  cases b with | mk k' nm' v' l' =>
  show CTp L (n + 1 + 1) 21 [yR 3 _, yR 3 _] = _
  rw [c21]
  have hv : CTp L (n + 1) 52 [yR 2 v, yR 2 v'] = some [yB (decide (v = v'))] := Equal_ok v (by simp only [wfO]; omega) v' L (n + 1) (by omega) (by omega)
  have hl : CTp L (n + 1) 53 [yS 3 l, yS 3 l'] = some [yB (decide (l = l'))] := EqAll_of (by omega) (by omega) fun x hx y => ih x hx (by have := bI hx; simp only [wfT]; omega) y L n (by have := bI hx; omega) (by have := bI hx; omega)
  simp only [F21, B21x0, J21x1, B21x1, G.T.kind, G.T.name, G.T.value, G.T.args, G.T.mk.injEq, hv, hl, cY]
  by_cases e1 : k = k'
  ·by_cases e2 : nm = nm'
   ·by_cases e3 : v = v'
    ·simp [e1, e2, e3, cnd, bb]
    ·simp [e1, e2, e3, cnd, bb]
   ·simp [e1, e2, cnd, bb]
  ·simp [e1, cnd, bb]
end Go.TV
namespace Go.TV
open Go.AI Go.PI Go.Proofs
theorem wrapm {k : Nat} (h : k < 4000000000000000000) : IntKind.i64.wrap (((k + 1 : Nat) : Int) - 1) = (k : Int) := by
 unfold IntKind.wrap
 simp [IntKind.bits, IntKind.signed]
 omega
theorem EqP_loop {c : TC0} {L : Nat} {n1 : G.O → G.O → Rt} {a b : G.O} (hl : a.pair.length = b.pair.length) (hb : a.pair.length < 1000000000)
    {s : Nat} (hs : a.pair.length = s + 1) : ∀ (l : List G.O) (x : G.O) (r : List G.O) (k m : Nat), a.pair.drop k = x :: l → b.pair.drop k = r → l.length < m →
    (∀ x, x ∈ a.pair → ∀ y, c 48 (oo x y) = some (bb (decide (x = y)))) → (∀ x, x ∈ a.pair → ∀ y, n1 x y = some (bb (decide (x = y)))) →
    zJ c L n1 m (s : Int) (k : Int) ((s + 1 : Nat) : Int) a b = some (bb (decide (x :: l = r))) := by
 intro l
 induction l with
 | nil =>
  intro x r k m h1 h2 h3 hc hn
  obtain ⟨m, rfl⟩ : ∃ m', m = m' + 1 := ⟨m - 1, by simp at h3; omega⟩
  obtain ⟨a1, a2, a3⟩ := aV h1
  have hk : k = s := by have := aW a3; omega
  subst hk
  cases r with
  | nil => have := aW h2; omega
  | cons y r =>
   obtain ⟨b1, b2, b3⟩ := aV h2
   have hr : r = [] := by rw [← b3]; exact List.drop_eq_nil_of_le (by omega)
   subst hr
   have e3 : decide ((k : Int) < (k : Int)) = false := by simp
   rw [zJ, B48x3, e3, aH, wrapm (by omega), aL, aL, a1, b1, dE, dE, hn x (List.mem_of_getElem? a1)]
   simp
 | cons z l ih =>
  intro x r k m h1 h2 h3 hc hn
  obtain ⟨m, rfl⟩ : ∃ m', m = m' + 1 := ⟨m - 1, by simp at h3; omega⟩
  obtain ⟨a1, a2, a3⟩ := aV h1
  obtain ⟨a4, a5, a6⟩ := aV a3
  cases r with
  | nil => have := aW h2; omega
  | cons y r =>
   obtain ⟨b1, b2, b3⟩ := aV h2
   have e3 : decide ((k : Int) < (s : Int)) = true := by simp; omega
   have hxy : c 48 [yR 2 x, yR 2 y] = some [yB (decide (x = y))] := hc x (List.mem_of_getElem? a1) y
   rw [zJ, B48x3, e3, aI, aL, aL, a1, b1, dE, dE, hxy, cY, dF (by omega)]
   by_cases e : x = y
   ·subst e
    simp only [decide_true, bnT, aH]
    rw [ih z r (k + 1) m a3 b3 (by simp at h3; omega) hc hn]
    simp
   ·simp only [e, decide_false, Bool.not_false, aI]
    simp [e, bb]
theorem EqW_ok : ∀ (a : G.O), wfO a → ∀ (b : G.O) (L n m : Nat), osz a ≤ L → osz a ≤ n → osz a ≤ m → vP (CTp L n) L m a b = some (bb (decide (a = b))) := by
 intro a
 induction a using aDy with
 | h k nu d s t l ih =>
  intro hw b L n m hL hn hm
  simp only [wfO, osz] at hw hL hn hm
  have hlen := wV l
  obtain ⟨m, rfl⟩ : ∃ n', m = n' + 1 := ⟨m - 1, by omega⟩
  obtain ⟨n, rfl⟩ : ∃ n', n = n' + 1 := ⟨n - 1, by omega⟩
  cases b with | mk k' nu' d' s' t' l' =>
  rw [vP]
  simp only [J48x2, B48x1, B48x2, G.O.kind, G.O.num, G.O.den, G.O.sym, G.O.text, G.O.pair, G.O.mk.injEq]
  by_cases e1 : k = k'
  ·by_cases e2 : nu = nu'
   ·by_cases e3 : d = d'
    ·by_cases e4 : s = s'
     ·by_cases e5 : t = t'
      ·by_cases e6 : (l.length : Int) = (l'.length : Int)
       ·simp only [e1, e2, e3, e4, e5, e6, decide_true, bnT, aH, aI, true_and]
        cases l with
        | nil =>
         have : l' = [] := List.eq_nil_of_length_eq_zero (by simp at e6; omega)
         subst this
         simp [cnd, bb]
        | cons x l =>
         have e7 : decide ((l'.length : Int) = 0) = false := by simp only [lcS] at e6; simp; intro h; simp [h] at e6; omega
         rw [e7, aH, ← e6]
         have hW : ∀ y, y ∈ x :: l → ∀ z, vP (CTp L (n + 1)) L m y z = some (bb (decide (y = z))) := fun y hy z =>
          ih y hy (by have := eI hy; simp only [wfO]; omega) z L (n + 1) m (by have := eI hy; omega) (by have := eI hy; omega) (by have := eI hy; omega)
         have hC : ∀ y, y ∈ x :: l → ∀ z, CTp L (n + 1) 48 (oo y z) = some (bb (decide (y = z))) := fun y hy z => by
          show CTp L (n + 1) 48 [yR 2 _, yR 2 _] = _
          rw [c48]
          exact ih y hy (by have := eI hy; simp only [wfO]; omega) z L n L (by have := eI hy; omega) (by have := eI hy; omega) (by have := eI hy; omega)
         have hz : IntKind.i64.wrap (((x :: l).length : Int) - 1) = (l.length : Int) := wrapm (by simp only [lcS] at hlen; omega)
         rw [hz]
         have := EqP_loop (c := CTp L (n + 1)) (L := L) (n1 := fun x0 x1 => vP (CTp L (n + 1)) L m x0 x1) (a := ⟨k, nu, d, s, t, x :: l⟩) (b := ⟨k', nu', d', s', t', l'⟩) (s := l.length) (by show (x :: l).length = l'.length; omega) (by show (x :: l).length < _; omega) rfl l x l' 0 L rfl rfl (by simp only [lcS] at hlen; omega) hC hW
         subst e1 e2 e3 e4 e5
         exact this
       ·have e7 : ¬ l = l' := fun h => e6 (by rw [h])
        simp [e1, e2, e3, e4, e5, e6, e7, cnd, bb]
      ·simp [e1, e2, e3, e4, e5, cnd, bb]
     ·simp [e1, e2, e3, e4, cnd, bb]
    ·simp [e1, e2, e3, cnd, bb]
   ·simp [e1, e2, cnd, bb]
  ·simp [e1, cnd, bb]
theorem EqOb_ok (a : G.O) (hw : wfO a) (b : G.O) (L n : Nat) (hL : osz a ≤ L) (hn : osz a < n) : CTp L n 48 (oo a b) = some (bb (decide (a = b))) := by
 obtain ⟨n, rfl⟩ : ∃ n', n = n' + 1 := ⟨n - 1, by omega⟩
 show CTp L (n + 1) 48 [yR 2 _, yR 2 _] = _
 rw [c48]
 exact EqW_ok a hw b L n L hL (by omega) hL
theorem EqB_loop {c : TC0} {L : Nat} {a b : List G.T} (hl : a.length = b.length) (hb : a.length < 1000000000) : ∀ (l r : List G.T) (k m : Nat), a.drop k = l → b.drop k = r → l.length < m →
    (∀ x, x ∈ l → ∀ y, c 18 (tt2 x y) = some (bb (decide (x = y)))) → zI c L m (a.length : Int) a b (k : Int) = some (bb (decide (l = r))) := by
 intro l
 induction l with
 | nil =>
  intro r k m h1 h2 h3 _
  obtain ⟨m, rfl⟩ : ∃ m', m = m' + 1 := ⟨m - 1, by simp at h3; omega⟩
  have e1 := aW h1
  have e2 : r = [] := by rw [← h2]; exact List.drop_eq_nil_of_le (by omega)
  have e3 : decide ((k : Int) < (a.length : Int)) = false := by simp; omega
  rw [zI, B49x1, e3, e2]
  simp only [aH, decide_true]; rfl
 | cons x l ih =>
  intro r k m h1 h2 h3 hc
  obtain ⟨m, rfl⟩ : ∃ m', m = m' + 1 := ⟨m - 1, by simp at h3; omega⟩
  obtain ⟨a1, a2, a3⟩ := aV h1
  cases r with
  | nil => have := aW h2; omega
  | cons y r =>
   obtain ⟨b1, b2, b3⟩ := aV h2
   have e3 : decide ((k : Int) < (a.length : Int)) = true := by simp; omega
   have hxy : c 18 [yR 3 x, yR 3 y] = some [yB (decide (x = y))] := hc x (mhE ..) y
   rw [zI, B49x1, e3, aI, aL, aL, a1, b1, dE, dE, hxy, cY, dF (by omega)]
   by_cases e : x = y
   ·subst e
    simp only [decide_true, bnT, aH]
    rw [ih r (k + 1) m a3 b3 (by simp at h3; omega) fun z hz => hc z (mtE _ hz)]
    simp
   ·simp only [e, decide_false, Bool.not_false, aI]
    simp [e, bb]
theorem EqF_of {a b : List G.T} {L n : Nat} (hw : a.length < 1000000000) (hL : a.length < L) (hx : ∀ x, x ∈ a → ∀ y, CTp L n 18 (tt2 x y) = some (bb (decide (x = y)))) :
    CTp L (n + 1) 49 (ll2 a b) = some (bb (decide (a = b))) := by
 show CTp L (n + 1) 49 [yS 3 _, yS 3 _] = _
 rw [c49]
 simp only [F49, B49x0]
 by_cases e6 : (a.length : Int) = (b.length : Int)
 ·have := EqB_loop (c := CTp L n) (L := L) (by omega) hw a b 0 L rfl rfl hL hx
  rw [e6] at this
  simp only [e6, decide_true, bnT, aH]
  exact this
 ·have e7 : ¬ a = b := fun h => e6 (by rw [h])
  simp [e6, e7, cnd, bb]
theorem TEq_ok : ∀ (a : G.T), wfT a → ∀ (b : G.T) (L n : Nat), tsz a ≤ L → tsz a ≤ n → CTp L n 18 (tt2 a b) = some (bb (decide (a = b))) := by
 intro a
 induction a using qZ with
 | h k nm v l ih =>
  intro hw b L n hL hn
  simp only [wfT, tsz] at hw hL hn
  have hlen := dP l
  obtain ⟨n, rfl⟩ : ∃ n', n = n' + 2 := ⟨n - 2, by omega⟩
  cases b with | mk k' nm' v' l' =>
  show CTp L (n + 1 + 1) 18 [yR 3 _, yR 3 _] = _
  rw [c18]
  have hv : CTp L (n + 1) 48 [yR 2 v, yR 2 v'] = some [yB (decide (v = v'))] := EqOb_ok v (by simp only [wfO]; omega) v' L (n + 1) (by omega) (by omega)
  have hl : CTp L (n + 1) 49 [yS 3 l, yS 3 l'] = some [yB (decide (l = l'))] := EqF_of (by omega) (by omega) fun x hx y => ih x hx (by have := bI hx; simp only [wfT]; omega) y L n (by have := bI hx; omega) (by have := bI hx; omega)
  simp only [F18, B18x0, J18x1, B18x1, G.T.kind, G.T.name, G.T.value, G.T.args, G.T.mk.injEq, hv, hl, cY]
  by_cases e1 : k = k'
  ·by_cases e2 : nm = nm'
   ·by_cases e3 : v = v'
    ·simp [e1, e2, e3, cnd, bb]
    ·simp [e1, e2, e3, cnd, bb]
   ·simp [e1, e2, cnd, bb]
  ·simp [e1, cnd, bb]
end Go.TV
