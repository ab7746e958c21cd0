import Derived.Test.YtkglmoobpigohaaGreatDoorKq
import Derived.Test.YtkglmoobpigohaaGreatDoorKt
import Derived.Test.YtkglmoobpigohaaGreatDoorKs
set_option linter.unusedVariables false
set_option linter.unusedSimpArgs false
set_option linter.constructorNameAsVariable false
namespace Go.TV
open Go.AI Go.PI Go.Proofs
set_option maxRecDepth 20000
noncomputable section
variable (c : TC0) (e : Cu) (L : Nat)
def q61x0 (c : TC0) (e : Cu) : Kt := xK aD2
def q61x1 (c : TC0) (e : Cu) : Kt := xT aD2 c e [1, 1, 1, 1, 1, 1] (q61x0 c e)
def q61x2 (c : TC0) (e : Cu) : Kt := cI U0 0 (q61x1 c e)
def q61x3 (c : TC0) (e : Cu) (n1 : Nt) : Kt := lpK U0 rK n1 (q61x2 c e)
def q61x4 (c : TC0) (e : Cu) (n1 : Nt) : Kt := cI U0 1 (q61x3 c e n1)
def q61x5 (c : TC0) (e : Cu) (n1 : Nt) : Kt := xT aD2 c e [1, 1, 1, 1, 1, 0, 0, 0, 1, 0, 1, 1] (q61x4 c e n1)
def B61x0 (c : TC0) (e1 : List G.O → G.P → G.X → Rt) (a0 : List G.A) (a1 : List UInt8) (a2 : List UInt8) : Rt :=
 obL [zS 19, .rc 17] (c 83 [yT a2]) fun (r0 : List G.K × G.X × Unit) =>
 cnd (!decide (r0.2.1.err = (0 : Int))) (some [yS 2 ([] : List G.O), yR 17 r0.2.1]) (e1 ([] : List G.O) (G.P.mk a0 a1 r0.1 (0 : Int)) (G.X.mk (0 : Int) (0 : Int)))
def V61x0 (n : Nt) : List G.A → List UInt8 → List UInt8 → Rt := fun x0 x1 x2 => n [yS 5 x0, yT x1, yT x2]
def B61x1 (c : TC0) (k2 : Bool → Int → List G.O → G.P → G.X → Rt) (a11 : List G.O) (b129 : G.P) (b107 : G.X) : Rt :=
 ob (idx b129.t b129.pos) fun v0 =>
 cnd (!decide (v0.kind = (0 : Int))) (ob (idx b129.t b129.pos) fun v1 =>
 ob (idx b129.t b129.pos) fun v2 =>
 cnd (decide ((100 : Int) ≤ (List.length a11 : Int))) (cnd (!decide (v2.kind = (2 : Int))) (k2 (!decide (v2.kind = (3 : Int))) v1.pos a11 b129 b107) (k2 false v1.pos a11 b129 b107)) (k2 false v1.pos a11 b129 b107)) (some [yS 2 a11, yR 17 (G.X.mk (0 : Int) (0 : Int))])
def aHc (n : Nt) : List G.O → G.P → G.X → Rt := fun x0 x1 x2 => n [yS 2 x0, yR 20 x1, yR 17 x2]
def X61x1 := aHc (xE aD2 e [1, 1, 1, 1, 1, 0, 0, 0] rK (q61x2 c e))
def B61x2 (c : TC0) (n1 : List G.O → G.P → G.X → Rt) (a74 : Bool) (a12 : Int) (a11 : List G.O) (b129 : G.P) (b107 : G.X) : Rt :=
 cnd a74 (obL [.rc 17] (c 84 [yI (2 : Int), yI a12]) fun (r0 : G.X × Unit) =>
 some [yS 2 ([] : List G.O), yR 17 r0.1]) (obL [.rc 2, .rc 17, .rc 20] (c 85 [yI (0 : Int), yR 20 b129]) fun (r1 : G.O × G.X × G.P × Unit) =>
 cnd (!decide (r1.2.1.err = (0 : Int))) (some [yS 2 ([] : List G.O), yR 17 r1.2.1]) (obL [i6] (c 86 [yR 2 r1.1]) fun (r2 : Int × Unit) =>
 cnd (decide ((3000 : Int) < r2.1)) (obL [.rc 17] (c 84 [yI (2 : Int), yI a12]) fun (r3 : G.X × Unit) =>
 some [yS 2 ([] : List G.O), yR 17 r3.1]) (chk (Nat.ble ((List.length a11 + List.length ([r1.1] : List G.O)) * 112) 1073741824) <|
 n1 (a11 ++ ([r1.1] : List G.O)) r1.2.2.1 b107)))
def V61x2 (n : Nt) : Bool → Int → List G.O → G.P → G.X → Rt := fun x0 x1 x2 x3 x4 => n [yB x0, yI x1, yS 2 x2, yR 20 x3, yR 17 x4]
def X61x2 (n1 : Nt) := V61x2 (xD aD2 e [1, 1, 1, 1, 1, 0, 0, 0, 1, 0, 1, 0, 1, 1, 0] aF2 (q61x5 c e n1))
theorem s61x0 : V61x0 (xF aD2 c e) = B61x0 c (X61x1 c e) := by kernel_rfl
theorem s61x1 (n1 : Nt) : aHc (xA aD2 c e [1, 1, 1, 1, 1, 0, 0, 0] rK (lpK U0 rK n1 (q61x2 c e))) = B61x1 c (X61x2 c e n1) := by kernel_rfl
theorem s61x2 (n1 : Nt) : V61x2 (xA aD2 c e [1, 1, 1, 1, 1, 0, 0, 0, 1, 0, 1, 0, 1, 1, 0] aF2 (q61x5 c e n1)) = B61x2 c (aHc n1) := by kernel_rfl
def J61x2 (c : TC0) (L : Nat) (n1 : List G.O → G.P → G.X → Rt) : Bool → Int → List G.O → G.P → G.X → Rt := B61x2 c n1
theorem j61x2 (n1 : Nt) : X61x2 c (cu c L) n1 = J61x2 c L (aHc n1) := by rw [X61x2, aQ, s61x2]; rfl
def aAN (c : TC0) (L : Nat) : Nat → List G.O → G.P → G.X → Rt
 | 0 => fun _ _ _ => none
 | n + 1 => B61x1 c (J61x2 c L (aAN c L n))
theorem u61x1 (n : Nat) : aHc (xL aD2 c L [1, 1, 1, 1, 1, 0, 0, 0] rK (q61x2 c (cu c L)) n) = aAN c L n := by
 induction n with
 | zero => rfl
 | succ n ih => rw [eM, s61x1]; simp only [j61x2, ih]; rfl
theorem w61x1 : X61x1 c (cu c L) = aAN c L L := u61x1 c L L
def F61 (c : TC0) (L : Nat) : List G.A → List UInt8 → List UInt8 → Rt := B61x0 c (aAN c L L)
theorem e61 : V61x0 (xF aD2 c (cu c L)) = F61 c L := by rw [s61x0]; simp only [w61x1]; rfl
theorem c61 (a0 : List G.A) (a1 : List UInt8) (a2 : List UInt8) (L n : Nat) : CTp L (n + 1) 61 [yS 5 a0, yT a1, yT a2] = F61 (CTp L n) L a0 a1 a2 := by rw [← e61]; exact cg (x := aD2) (by kernel_rfl) (by kernel_rfl) L n _
def B75x0 (c : TC0) (a0 : List G.E) (a1 : G.Y) : Rt :=
 obL [i6, i6, .bool] (c 94 [yS 15 a0, yR 1 a1]) fun (r0 : Int × Int × Bool × Unit) =>
 cnd (!r0.2.2.1) (some [yR 4 (G.F.mk (G.Y.mk ([] : List UInt8) ([] : List UInt8)) ([] : List G.Y) (0 : Int) (G.T.mk (0 : Int) (G.Y.mk ([] : List UInt8) ([] : List UInt8)) (G.O.mk (0 : Int) ([] : List UInt8) ([] : List UInt8) (G.Y.mk ([] : List UInt8) ([] : List UInt8)) ([] : List UInt8) ([] : List G.O)) ([] : List G.T)) (G.T.mk (0 : Int) (G.Y.mk ([] : List UInt8) ([] : List UInt8)) (G.O.mk (0 : Int) ([] : List UInt8) ([] : List UInt8) (G.Y.mk ([] : List UInt8) ([] : List UInt8)) ([] : List UInt8) ([] : List G.O)) ([] : List G.T)) (G.T.mk (0 : Int) (G.Y.mk ([] : List UInt8) ([] : List UInt8)) (G.O.mk (0 : Int) ([] : List UInt8) ([] : List UInt8) (G.Y.mk ([] : List UInt8) ([] : List UInt8)) ([] : List UInt8) ([] : List G.O)) ([] : List G.T))), yB false]) (ob (idx a0 r0.1) fun v1 =>
 obL [zS 4] (c 95 [yR 15 v1]) fun (r2 : List G.F × Unit) =>
 ob (idx r2.1 r0.2.1) fun v3 =>
 some [yR 4 v3, yB true])
def V75x0 (n : Nt) : List G.E → G.Y → Rt := fun x0 x1 => n [yS 15 x0, yR 1 x1]
theorem s75x0 : V75x0 (xF ii75 c e) = B75x0 c := by kernel_rfl
def F75 (c : TC0) (L : Nat) : List G.E → G.Y → Rt := B75x0 c
theorem e75 : V75x0 (xF ii75 c (cu c L)) = F75 c L := s75x0 _ _
theorem c75 (a0 : List G.E) (a1 : G.Y) (L n : Nat) : CTp L (n + 1) 75 [yS 15 a0, yR 1 a1] = F75 (CTp L n) L a0 a1 := by rw [← e75]; exact cg (x := ii75) (by kernel_rfl) (by kernel_rfl) L n _
def B76x0 (c : TC0) (a0 : G.T) : Rt :=
 obL [.bool] (c 96 [yR 3 a0]) fun (r0 : Bool × Unit) =>
 some [yB r0.1]
def V76x0 (n : Nt) : G.T → Rt := fun x0 => n [yR 3 x0]
theorem s76x0 : V76x0 (xF ii76 c e) = B76x0 c := by kernel_rfl
def F76 (c : TC0) (L : Nat) : G.T → Rt := B76x0 c
theorem e76 : V76x0 (xF ii76 c (cu c L)) = F76 c L := s76x0 _ _
theorem c76 (a0 : G.T) (L n : Nat) : CTp L (n + 1) 76 [yR 3 a0] = F76 (CTp L n) L a0 := by rw [← e76]; exact cg (x := ii76) (by kernel_rfl) (by kernel_rfl) L n _
def q77x0 (c : TC0) (e : Cu) : Kt := xK ii77
def q77x1 (c : TC0) (e : Cu) : Kt := xT ii77 c e [1, 1, 1, 1] (q77x0 c e)
def q77x2 (c : TC0) (e : Cu) : Kt := cI U0 0 (q77x1 c e)
def aHB (c : TC0) (k1 : Bool → Rt) (a0 : G.Y) : Rt :=
 obL [i6, .bool] (c 97 [yR 1 a0]) fun (r0 : Int × Bool × Unit) =>
 cnd r0.2.1 (some [yB true]) (cnd (!decide (a0.package = ([108, 105, 115, 112] : List UInt8))) (some [yB false]) (cnd (decide (a0.name = ([110, 111, 116] : List UInt8))) (k1 (decide (a0.name = ([110, 111, 116] : List UInt8)))) (cnd (decide (a0.name = ([105, 109, 112, 108, 105, 101, 115] : List UInt8))) (k1 (decide (a0.name = ([105, 109, 112, 108, 105, 101, 115] : List UInt8)))) (cnd (decide (a0.name = ([105, 102, 102] : List UInt8))) (k1 (decide (a0.name = ([105, 102, 102] : List UInt8)))) (cnd (decide (a0.name = ([98, 111, 111, 108, 101, 97, 110, 112] : List UInt8))) (k1 (decide (a0.name = ([98, 111, 111, 108, 101, 97, 110, 112] : List UInt8)))) (cnd (decide (a0.name = ([97, 116, 111, 109] : List UInt8))) (k1 (decide (a0.name = ([97, 116, 111, 109] : List UInt8)))) (cnd (decide (a0.name = ([101, 110, 100, 112] : List UInt8))) (k1 (decide (a0.name = ([101, 110, 100, 112] : List UInt8)))) (cnd (decide (a0.name = ([110, 97, 116, 112] : List UInt8))) (k1 (decide (a0.name = ([110, 97, 116, 112] : List UInt8)))) (cnd (decide (a0.name = ([112, 111, 115, 112] : List UInt8))) (k1 (decide (a0.name = ([112, 111, 115, 112] : List UInt8)))) (cnd (decide (a0.name = ([122, 112] : List UInt8))) (k1 (decide (a0.name = ([122, 112] : List UInt8)))) (cnd (decide (a0.name = ([116, 114, 117, 101, 45, 108, 105, 115, 116, 112] : List UInt8))) (k1 (decide (a0.name = ([116, 114, 117, 101, 45, 108, 105, 115, 116, 112] : List UInt8)))) (cnd (decide (a0.name = ([111, 45, 112] : List UInt8))) (k1 (decide (a0.name = ([111, 45, 112] : List UInt8)))) (cnd (decide (a0.name = ([111, 60] : List UInt8))) (k1 (decide (a0.name = ([111, 60] : List UInt8)))) (k1 (decide (a0.name = ([115, 121, 110, 116, 97, 120, 112] : List UInt8)))))))))))))))))
def V77x0 (n : Nt) : G.Y → Rt := fun x0 => n [yR 1 x0]
def B77x1 (c : TC0) (a16 : Bool) : Rt :=
 cnd a16 (some [yB true]) (some [yB false])
def V77x1 (n : Nt) : Bool → Rt := fun x0 => n [yB x0]
def X77x1 := V77x1 (xD ii77 e [1, 1, 1, 0, 1, 0, 1, 0] aF0 (q77x2 c e))
theorem s77x0 : V77x0 (xF ii77 c e) = aHB c (X77x1 c e) := by kernel_rfl
theorem s77x1 : V77x1 (xA ii77 c e [1, 1, 1, 0, 1, 0, 1, 0] aF0 (q77x2 c e)) = B77x1 c := by kernel_rfl
def J77x1 (c : TC0) (L : Nat) : Bool → Rt := B77x1 c
theorem j77x1 : X77x1 c (cu c L) = J77x1 c L := by rw [X77x1, aQ, s77x1]; rfl
def F77 (c : TC0) (L : Nat) : G.Y → Rt := aHB c (J77x1 c L)
theorem e77 : V77x0 (xF ii77 c (cu c L)) = F77 c L := by rw [s77x0]; simp only [j77x1]; rfl
theorem c77 (a0 : G.Y) (L n : Nat) : CTp L (n + 1) 77 [yR 1 a0] = F77 (CTp L n) L a0 := by rw [← e77]; exact cg (x := ii77) (by kernel_rfl) (by kernel_rfl) L n _
def q78x0 (c : TC0) (e : Cu) : Kt := xK yJ
def q78x1 (c : TC0) (e : Cu) : Kt := xT yJ c e [1, 1, 1] (q78x0 c e)
def q78x2 (c : TC0) (e : Cu) : Kt := cI U0 0 (q78x1 c e)
def q78x3 (c : TC0) (e : Cu) (n1 : Nt) : Kt := lpK U0 rJ n1 (q78x2 c e)
def q78x4 (c : TC0) (e : Cu) (n1 : Nt) : Kt := xT yJ c e [1, 1, 0, 1, 0, 0, 1, 1, 1] (q78x3 c e n1)
def aDe (c : TC0) (e : Cu) (n1 : Nt) : Kt := cI U0 1 (q78x4 c e n1)
def B78x0 (c : TC0) (e1 : Int → List G.T → Int → Int → G.T → Rt) (a0 : List G.T) (a1 : G.T) : Rt :=
 e1 (List.length a0 : Int) a0 (0 : Int) (0 : Int) a1
def V78x0 (n : Nt) : List G.T → G.T → Rt := fun x0 x1 => n [yS 3 x0, yR 3 x1]
def B78x1 (c : TC0) (k2 : Int → Int → List G.T → Int → G.T → G.T → Rt) (a9 : Int) (a8 : List G.T) (a10 : Int) (a5 : Int) (b103 : G.T) : Rt :=
 cnd (decide (a10 < a9)) (ob (idx a8 a10) fun v0 =>
 obL [.bool] (c 98 [yR 3 b103, yR 3 v0]) fun (r1 : Bool × Unit) =>
 cnd r1.1 (k2 a10 a9 a8 (IntKind.i64.wrap (a5 + (1 : Int))) v0 b103) (k2 a10 a9 a8 a5 v0 b103)) (some [yB (decide ((1 : Int) < a5))])
def aA4 (n : Nt) : Int → List G.T → Int → Int → G.T → Rt := fun x0 x1 x2 x3 x4 => n [yI x0, yS 3 x1, yI x2, yI x3, yR 3 x4]
def X78x1 := aA4 (xE yJ e [1, 1, 0, 1, 0, 0] rJ (q78x2 c e))
def B78x2 (c : TC0) (k3 : Int → Int → List G.T → Int → G.T → G.T → Rt) (a10 : Int) (a9 : Int) (a8 : List G.T) (a5 : Int) (b107 : G.T) (b103 : G.T) : Rt :=
 obL [.bool] (c 99 [yR 3 b107, yT ([110, 111, 116] : List UInt8), yI (1 : Int)]) fun (r0 : Bool × Unit) =>
 cnd r0.1 (ob (idx b107.args (0 : Int)) fun v1 =>
 k3 a10 a9 a8 a5 v1 b103) (k3 a10 a9 a8 a5 b107 b103)
def V78x2 (n : Nt) : Int → Int → List G.T → Int → G.T → G.T → Rt := fun x0 x1 x2 x3 x4 x5 => n [yI x0, yI x1, yS 3 x2, yI x3, yR 3 x4, yR 3 x5]
def X78x2 (n1 : Nt) := V78x2 (xD yJ e [1, 1, 0, 1, 0, 0, 1, 1, 0, 0, 1, 1, 0] aFZ (aDe c e n1))
def B78x3 (c : TC0) (k4 : Bool → Int → Int → List G.T → Int → G.T → Rt) (a10 : Int) (a9 : Int) (a8 : List G.T) (a5 : Int) (b107 : G.T) (b103 : G.T) : Rt :=
 obL [.bool] (c 99 [yR 3 b107, yT ([101, 113, 117, 97, 108] : List UInt8), yI (2 : Int)]) fun (r0 : Bool × Unit) =>
 cnd r0.1 (ob (idx b107.args (0 : Int)) fun v1 =>
 obL [.bool] (c 98 [yR 3 b103, yR 3 v1]) fun (r2 : Bool × Unit) =>
 cnd r2.1 (ob (idx b107.args (1 : Int)) fun v3 =>
 obL [.bool] (c 98 [yR 3 b103, yR 3 v3]) fun (r4 : Bool × Unit) =>
 k4 r4.1 a10 a9 a8 a5 b103) (k4 false a10 a9 a8 a5 b103)) (k4 false a10 a9 a8 a5 b103)
def V78x3 (n : Nt) : Int → Int → List G.T → Int → G.T → G.T → Rt := fun x0 x1 x2 x3 x4 x5 => n [yI x0, yI x1, yS 3 x2, yI x3, yR 3 x4, yR 3 x5]
def X78x3 (n1 : Nt) := V78x3 (xD yJ e [1, 1, 0, 1, 0, 0, 1, 1, 0, 0, 1, 1, 0, 1, 0] aFY (aDe c e n1))
def aHA (c : TC0) (n1 : Int → List G.T → Int → Int → G.T → Rt) (a42 : Bool) (a10 : Int) (a9 : Int) (a8 : List G.T) (a5 : Int) (b103 : G.T) : Rt :=
 cnd a42 (some [yB true]) (n1 a9 a8 (IntKind.i64.wrap (a10 + (1 : Int))) a5 b103)
def V78x4 (n : Nt) : Bool → Int → Int → List G.T → Int → G.T → Rt := fun x0 x1 x2 x3 x4 x5 => n [yB x0, yI x1, yI x2, yS 3 x3, yI x4, yR 3 x5]
def X78x4 (n1 : Nt) := V78x4 (xD yJ e [1, 1, 0, 1, 0, 0, 1, 1, 0, 0, 1, 1, 0, 1, 0, 1, 0] aFX (aDe c e n1))
theorem s78x0 : V78x0 (xF yJ c e) = B78x0 c (X78x1 c e) := by kernel_rfl
theorem s78x1 (n1 : Nt) : aA4 (xA yJ c e [1, 1, 0, 1, 0, 0] rJ (lpK U0 rJ n1 (q78x2 c e))) = B78x1 c (X78x2 c e n1) := by kernel_rfl
theorem s78x2 (n1 : Nt) : V78x2 (xA yJ c e [1, 1, 0, 1, 0, 0, 1, 1, 0, 0, 1, 1, 0] aFZ (aDe c e n1)) = B78x2 c (X78x3 c e n1) := by kernel_rfl
theorem s78x3 (n1 : Nt) : V78x3 (xA yJ c e [1, 1, 0, 1, 0, 0, 1, 1, 0, 0, 1, 1, 0, 1, 0] aFY (aDe c e n1)) = B78x3 c (X78x4 c e n1) := by kernel_rfl
theorem s78x4 (n1 : Nt) : V78x4 (xA yJ c e [1, 1, 0, 1, 0, 0, 1, 1, 0, 0, 1, 1, 0, 1, 0, 1, 0] aFX (aDe c e n1)) = aHA c (aA4 n1) := by kernel_rfl
def aHk (c : TC0) (L : Nat) (n1 : Int → List G.T → Int → Int → G.T → Rt) : Bool → Int → Int → List G.T → Int → G.T → Rt := aHA c n1
theorem j78x4 (n1 : Nt) : X78x4 c (cu c L) n1 = aHk c L (aA4 n1) := by rw [X78x4, aQ, s78x4]; rfl
def aHl (c : TC0) (L : Nat) (n1 : Int → List G.T → Int → Int → G.T → Rt) : Int → Int → List G.T → Int → G.T → G.T → Rt := B78x3 c (aHk c L n1)
theorem j78x3 (n1 : Nt) : X78x3 c (cu c L) n1 = aHl c L (aA4 n1) := by rw [X78x3, aQ, s78x3]; simp only [j78x4]; rfl
def J78x2 (c : TC0) (L : Nat) (n1 : Int → List G.T → Int → Int → G.T → Rt) : Int → Int → List G.T → Int → G.T → G.T → Rt := B78x2 c (aHl c L n1)
theorem j78x2 (n1 : Nt) : X78x2 c (cu c L) n1 = J78x2 c L (aA4 n1) := by rw [X78x2, aQ, s78x2]; simp only [j78x3]; rfl
def aAM (c : TC0) (L : Nat) : Nat → Int → List G.T → Int → Int → G.T → Rt
 | 0 => fun _ _ _ _ _ => none
 | n + 1 => B78x1 c (J78x2 c L (aAM c L n))
theorem u78x1 (n : Nat) : aA4 (xL yJ c L [1, 1, 0, 1, 0, 0] rJ (q78x2 c (cu c L)) n) = aAM c L n := by
 induction n with
 | zero => rfl
 | succ n ih => rw [eM, s78x1]; simp only [j78x2, ih]; rfl
theorem w78x1 : X78x1 c (cu c L) = aAM c L L := u78x1 c L L
def F78 (c : TC0) (L : Nat) : List G.T → G.T → Rt := B78x0 c (aAM c L L)
theorem e78 : V78x0 (xF yJ c (cu c L)) = F78 c L := by rw [s78x0]; simp only [w78x1]; rfl
theorem c78 (a0 : List G.T) (a1 : G.T) (L n : Nat) : CTp L (n + 1) 78 [yS 3 a0, yR 3 a1] = F78 (CTp L n) L a0 a1 := by rw [← e78]; exact cg (x := yJ) (by kernel_rfl) (by kernel_rfl) L n _
def q79x0 (c : TC0) (e : Cu) : Kt := xK zM
def q79x1 (c : TC0) (e : Cu) : Kt := cI U0 0 (q79x0 c e)
def q79x2 (c : TC0) (e : Cu) (n1 : Nt) : Kt := lpK U0 rI n1 (q79x1 c e)
def q79x3 (c : TC0) (e : Cu) (n1 : Nt) : Kt := cI U0 1 (q79x2 c e n1)
def q79x4 (c : TC0) (e : Cu) (n1 : Nt) : Kt := xT zM c e [1, 0, 0, 0, 1] (q79x3 c e n1)
def q79x5 (c : TC0) (e : Cu) (n1 : Nt) : Kt := xT zM c e [1, 0, 0, 0, 1, 1, 1, 1] (q79x3 c e n1)
def q79x6 (c : TC0) (e : Cu) (n1 : Nt) : Kt := cI U0 2 (q79x5 c e n1)
def B79x0 (c : TC0) (e1 : G.O → G.O → Rt) (a0 : G.O) (a1 : G.O) : Rt :=
 e1 a0 a1
def V79x0 (n : Nt) : G.O → G.O → Rt := fun x0 x1 => n [yR 2 x0, yR 2 x1]
def B79x1 (c : TC0) (k2 : Bool → G.O → G.O → Rt) (b102 : G.O) (b103 : G.O) : Rt :=
 cnd (!decide (b102.kind = b103.kind)) (k2 true b102 b103) (cnd (!decide (b102.num = b103.num)) (k2 true b102 b103) (cnd (!decide (b102.den = b103.den)) (k2 true b102 b103) (cnd (!decide (b102.sym = b103.sym)) (k2 true b102 b103) (cnd (!decide (b102.text = b103.text)) (k2 true b102 b103) (k2 (!decide ((List.length b102.pair : Int) = (List.length b103.pair : Int))) b102 b103)))))
def aA3 (n : Nt) : G.O → G.O → Rt := fun x0 x1 => n [yR 2 x0, yR 2 x1]
def X79x1 := aA3 (xE zM e [1, 0, 0] rI (q79x1 c e))
def B79x2 (c : TC0) (e3 : Int → Int → Int → G.O → G.O → Rt) (a48 : Bool) (b102 : G.O) (b103 : G.O) : Rt :=
 cnd a48 (some [yB false]) (cnd (decide ((List.length b102.pair : Int) = (0 : Int))) (some [yB true]) (e3 (IntKind.i64.wrap ((List.length b102.pair : Int) - (1 : Int))) (0 : Int) (List.length b102.pair : Int) b102 b103))
def V79x2 (n : Nt) : Bool → G.O → G.O → Rt := fun x0 x1 x2 => n [yB x0, yR 2 x1, yR 2 x2]
def X79x2 (n1 : Nt) := V79x2 (xD zM e [1, 0, 0, 0, 0, 1, 0] aFW (q79x4 c e n1))
def B79x3 (c : TC0) (n3 : Int → Int → Int → G.O → G.O → Rt) (n1 : G.O → G.O → Rt) (a55 : Int) (a56 : Int) (a5 : Int) (b102 : G.O) (b103 : G.O) : Rt :=
 cnd (decide (a56 < a55)) (ob (idx b102.pair a56) fun v0 =>
 ob (idx b103.pair a56) fun v1 =>
 obL [.bool] (c 79 [yR 2 v0, yR 2 v1]) fun (r2 : Bool × Unit) =>
 cnd (!r2.1) (some [yB false]) (n3 a55 (IntKind.i64.wrap (a56 + (1 : Int))) a5 b102 b103)) (ob (idx b102.pair (IntKind.i64.wrap (a5 - (1 : Int)))) fun v3 =>
 ob (idx b103.pair (IntKind.i64.wrap (a5 - (1 : Int)))) fun v4 =>
 n1 v3 v4)
def V79x3 (n : Nt) : Int → Int → Int → G.O → G.O → Rt := fun x0 x1 x2 x3 x4 => n [yI x0, yI x1, yI x2, yR 2 x3, yR 2 x4]
def X79x3 (n1 : Nt) := V79x3 (xE zM e [1, 0, 0, 0, 1, 1, 1, 0, 1, 0, 0] wF (q79x6 c e n1))
theorem s79x0 : V79x0 (xF zM c e) = B79x0 c (X79x1 c e) := by kernel_rfl
theorem s79x1 (n1 : Nt) : aA3 (xA zM c e [1, 0, 0] rI (lpK U0 rI n1 (q79x1 c e))) = B79x1 c (X79x2 c e n1) := by kernel_rfl
theorem s79x2 (n1 : Nt) : V79x2 (xA zM c e [1, 0, 0, 0, 0, 1, 0] aFW (q79x4 c e n1)) = B79x2 c (X79x3 c e n1) := by kernel_rfl
theorem s79x3 (n3 : Nt) (n1 : Nt) : V79x3 (xA zM c e [1, 0, 0, 0, 1, 1, 1, 0, 1, 0, 0] wF (lpK U0 wF n3 (q79x6 c e n1))) = B79x3 c (V79x3 n3) (aA3 n1) := by kernel_rfl
def aAL (c : TC0) (L : Nat) (n1 : G.O → G.O → Rt) : Nat → Int → Int → Int → G.O → G.O → Rt
 | 0 => fun _ _ _ _ _ => none
 | n + 1 => B79x3 c (aAL c L n1 n) n1
theorem u79x3 (n1 : Nt) (n : Nat) : V79x3 (xL zM c L [1, 0, 0, 0, 1, 1, 1, 0, 1, 0, 0] wF (q79x6 c (cu c L) n1) n) = aAL c L (aA3 n1) n := by
 induction n with
 | zero => rfl
 | succ n ih => rw [eM, s79x3]; simp only [ih]; rfl
theorem w79x3 (n1 : Nt) : X79x3 c (cu c L) n1 = aAL c L (aA3 n1) L := u79x3 c L n1 L
def J79x2 (c : TC0) (L : Nat) (n1 : G.O → G.O → Rt) : Bool → G.O → G.O → Rt := B79x2 c (aAL c L n1 L)
theorem j79x2 (n1 : Nt) : X79x2 c (cu c L) n1 = J79x2 c L (aA3 n1) := by rw [X79x2, aQ, s79x2]; simp only [w79x3]; rfl
def xP (c : TC0) (L : Nat) : Nat → G.O → G.O → Rt
 | 0 => fun _ _ => none
 | n + 1 => B79x1 c (J79x2 c L (xP c L n))
theorem u79x1 (n : Nat) : aA3 (xL zM c L [1, 0, 0] rI (q79x1 c (cu c L)) n) = xP c L n := by
 induction n with
 | zero => rfl
 | succ n ih => rw [eM, s79x1]; simp only [j79x2, ih]; rfl
theorem w79x1 : X79x1 c (cu c L) = xP c L L := u79x1 c L L
def F79 (c : TC0) (L : Nat) : G.O → G.O → Rt := B79x0 c (xP c L L)
theorem e79 : V79x0 (xF zM c (cu c L)) = F79 c L := by rw [s79x0]; simp only [w79x1]; rfl
theorem c79 (a0 : G.O) (a1 : G.O) (L n : Nat) : CTp L (n + 1) 79 [yR 2 a0, yR 2 a1] = F79 (CTp L n) L a0 a1 := by rw [← e79]; exact cg (x := zM) (by kernel_rfl) (by kernel_rfl) L n _
def q80x0 (c : TC0) (e : Cu) : Kt := xK ii80
def q80x1 (c : TC0) (e : Cu) : Kt := xT ii80 c e [1, 1, 1] (q80x0 c e)
def q80x2 (c : TC0) (e : Cu) : Kt := cI U0 0 (q80x1 c e)
def B80x0 (c : TC0) (e1 : Int → List G.T → List G.T → Int → Rt) (a0 : List G.T) (a1 : List G.T) : Rt :=
 cnd (!decide ((List.length a0 : Int) = (List.length a1 : Int))) (some [yB false]) (e1 (List.length a0 : Int) a0 a1 (0 : Int))
def V80x0 (n : Nt) : List G.T → List G.T → Rt := fun x0 x1 => n [yS 3 x0, yS 3 x1]
def B80x1 (c : TC0) (n1 : Int → List G.T → List G.T → Int → Rt) (a16 : Int) (a15 : List G.T) (a1 : List G.T) (a17 : Int) : Rt :=
 cnd (decide (a17 < a16)) (ob (idx a15 a17) fun v0 =>
 ob (idx a1 a17) fun v1 =>
 obL [.bool] (c 53 [yR 3 v0, yR 3 v1]) fun (r2 : Bool × Unit) =>
 cnd (!r2.1) (some [yB false]) (n1 a16 a15 a1 (IntKind.i64.wrap (a17 + (1 : Int))))) (some [yB true])
def V80x1 (n : Nt) : Int → List G.T → List G.T → Int → Rt := fun x0 x1 x2 x3 => n [yI x0, yS 3 x1, yS 3 x2, yI x3]
def X80x1 := V80x1 (xE ii80 e [1, 1, 0, 1, 0, 0] vZ (q80x2 c e))
theorem s80x0 : V80x0 (xF ii80 c e) = B80x0 c (X80x1 c e) := by kernel_rfl
theorem s80x1 (n1 : Nt) : V80x1 (xA ii80 c e [1, 1, 0, 1, 0, 0] vZ (lpK U0 vZ n1 (q80x2 c e))) = B80x1 c (V80x1 n1) := by kernel_rfl
def aAK (c : TC0) (L : Nat) : Nat → Int → List G.T → List G.T → Int → Rt
 | 0 => fun _ _ _ _ => none
 | n + 1 => B80x1 c (aAK c L n)
theorem u80x1 (n : Nat) : V80x1 (xL ii80 c L [1, 1, 0, 1, 0, 0] vZ (q80x2 c (cu c L)) n) = aAK c L n := by
 induction n with
 | zero => rfl
 | succ n ih => rw [eM, s80x1]; simp only [ih]; rfl
theorem w80x1 : X80x1 c (cu c L) = aAK c L L := u80x1 c L L
def F80 (c : TC0) (L : Nat) : List G.T → List G.T → Rt := B80x0 c (aAK c L L)
theorem e80 : V80x0 (xF ii80 c (cu c L)) = F80 c L := by rw [s80x0]; simp only [w80x1]; rfl
theorem c80 (a0 : List G.T) (a1 : List G.T) (L n : Nat) : CTp L (n + 1) 80 [yS 3 a0, yS 3 a1] = F80 (CTp L n) L a0 a1 := by rw [← e80]; exact cg (x := ii80) (by kernel_rfl) (by kernel_rfl) L n _
def B81x0 (c : TC0) : Rt :=
 some [yS 18 ([(G.R.mk ([105, 102] : List UInt8) (3 : Int)), (G.R.mk ([101, 113, 117, 97, 108] : List UInt8) (2 : Int)), (G.R.mk ([99, 111, 110, 115] : List UInt8) (2 : Int)), (G.R.mk ([99, 97, 114] : List UInt8) (1 : Int)), (G.R.mk ([99, 100, 114] : List UInt8) (1 : Int)), (G.R.mk ([99, 111, 110, 115, 112] : List UInt8) (1 : Int)), (G.R.mk ([115, 121, 109, 98, 111, 108, 112] : List UInt8) (1 : Int)), (G.R.mk ([115, 116, 114, 105, 110, 103, 112] : List UInt8) (1 : Int)), (G.R.mk ([114, 97, 116, 105, 111, 110, 97, 108, 112] : List UInt8) (1 : Int)), (G.R.mk ([105, 110, 116, 101, 103, 101, 114, 112] : List UInt8) (1 : Int)), (G.R.mk ([98, 105, 110, 97, 114, 121, 45, 43] : List UInt8) (2 : Int)), (G.R.mk ([98, 105, 110, 97, 114, 121, 45, 42] : List UInt8) (2 : Int)), (G.R.mk ([117, 110, 97, 114, 121, 45, 45] : List UInt8) (1 : Int)), (G.R.mk ([117, 110, 97, 114, 121, 45, 47] : List UInt8) (1 : Int)), (G.R.mk ([60] : List UInt8) (2 : Int)), (G.R.mk ([110, 117, 109, 101, 114, 97, 116, 111, 114] : List UInt8) (1 : Int)), (G.R.mk ([100, 101, 110, 111, 109, 105, 110, 97, 116, 111, 114] : List UInt8) (1 : Int)), (G.R.mk ([102, 108, 111, 111, 114] : List UInt8) (1 : Int)), (G.R.mk ([115, 121, 109, 98, 111, 108, 45, 110, 97, 109, 101] : List UInt8) (1 : Int)), (G.R.mk ([115, 121, 109, 98, 111, 108, 45, 112, 97, 99, 107, 97, 103, 101, 45, 110, 97, 109, 101] : List UInt8) (1 : Int)), (G.R.mk ([105, 110, 116, 101, 114, 110] : List UInt8) (2 : Int)), (G.R.mk ([115, 116, 114, 105, 110, 103, 45, 97, 112, 112, 101, 110, 100] : List UInt8) (2 : Int)), (G.R.mk ([115, 116, 114, 105, 110, 103, 45, 108, 101, 110, 103, 116, 104] : List UInt8) (1 : Int)), (G.R.mk ([115, 116, 114, 105, 110, 103, 45, 98, 121, 116, 101] : List UInt8) (2 : Int)), (G.R.mk ([98, 121, 116, 101, 45, 115, 116, 114, 105, 110, 103] : List UInt8) (1 : Int))] : List G.R)]
def V81x0 (n : Nt) : Rt := n []
theorem s81x0 : V81x0 (xF ii81 c e) = B81x0 c := by kernel_rfl
def F81 (c : TC0) (L : Nat) : Rt := B81x0 c
theorem e81 : V81x0 (xF ii81 c (cu c L)) = F81 c L := s81x0 _ _
theorem c81 (L n : Nat) : CTp L (n + 1) 81 [] = F81 (CTp L n) L := by rw [← e81]; exact cg (x := ii81) (by kernel_rfl) (by kernel_rfl) L n _
def q82x0 (c : TC0) (e : Cu) : Kt := xK ii82
def q82x1 (c : TC0) (e : Cu) : Kt := xT ii82 c e [1, 1] (q82x0 c e)
def q82x2 (c : TC0) (e : Cu) : Kt := cI U0 0 (q82x1 c e)
def B82x0 (c : TC0) (e1 : List G.Y → Int → G.Y → Rt) (a0 : List G.Y) (a1 : G.Y) : Rt :=
 e1 a0 (0 : Int) a1
def V82x0 (n : Nt) : List G.Y → G.Y → Rt := fun x0 x1 => n [yS 1 x0, yR 1 x1]
def B82x1 (c : TC0) (n1 : List G.Y → Int → G.Y → Rt) (a0 : List G.Y) (a5 : Int) (b103 : G.Y) : Rt :=
 cnd (decide (a5 < (List.length a0 : Int))) (ob (idx a0 a5) fun v0 =>
 cnd (decide (v0 = b103)) (some [yB true]) (n1 a0 (IntKind.i64.wrap (a5 + (1 : Int))) b103)) (some [yB false])
def V82x1 (n : Nt) : List G.Y → Int → G.Y → Rt := fun x0 x1 x2 => n [yS 1 x0, yI x1, yR 1 x2]
def X82x1 := V82x1 (xE ii82 e [1, 0, 1, 0, 0] vY (q82x2 c e))
theorem s82x0 : V82x0 (xF ii82 c e) = B82x0 c (X82x1 c e) := by kernel_rfl
theorem s82x1 (n1 : Nt) : V82x1 (xA ii82 c e [1, 0, 1, 0, 0] vY (lpK U0 vY n1 (q82x2 c e))) = B82x1 c (V82x1 n1) := by kernel_rfl
def aAJ (c : TC0) (L : Nat) : Nat → List G.Y → Int → G.Y → Rt
 | 0 => fun _ _ _ => none
 | n + 1 => B82x1 c (aAJ c L n)
theorem u82x1 (n : Nat) : V82x1 (xL ii82 c L [1, 0, 1, 0, 0] vY (q82x2 c (cu c L)) n) = aAJ c L n := by
 induction n with
 | zero => rfl
 | succ n ih => rw [eM, s82x1]; simp only [ih]; rfl
theorem w82x1 : X82x1 c (cu c L) = aAJ c L L := u82x1 c L L
def F82 (c : TC0) (L : Nat) : List G.Y → G.Y → Rt := B82x0 c (aAJ c L L)
theorem e82 : V82x0 (xF ii82 c (cu c L)) = F82 c L := by rw [s82x0]; simp only [w82x1]; rfl
theorem c82 (a0 : List G.Y) (a1 : G.Y) (L n : Nat) : CTp L (n + 1) 82 [yS 1 a0, yR 1 a1] = F82 (CTp L n) L a0 a1 := by rw [← e82]; exact cg (x := ii82) (by kernel_rfl) (by kernel_rfl) L n _
def q83x0 (c : TC0) (e : Cu) : Kt := xK ii83
def q83x1 (c : TC0) (e : Cu) : Kt := cI U0 0 (q83x0 c e)
def B83x0 (c : TC0) (e1 : Int → List UInt8 → List G.K → G.X → Rt) (a0 : List UInt8) : Rt :=
 cnd (decide ((6000 : Int) < (List.length a0 : Int))) (obL [.rc 17] (c 84 [yI (2 : Int), yI (0 : Int)]) fun (r0 : G.X × Unit) =>
 some [yS 19 ([] : List G.K), yR 17 r0.1]) (e1 (0 : Int) a0 ([] : List G.K) (G.X.mk (0 : Int) (0 : Int)))
def V83x0 (n : Nt) : List UInt8 → Rt := fun x0 => n [yT x0]
def B83x1 (c : TC0) (n1 : Int → List UInt8 → List G.K → G.X → Rt) (a5 : Int) (a0 : List UInt8) (a4 : List G.K) (b103 : G.X) : Rt :=
 obL [i6, .bool] (c 100 [yT a0, yI a5]) fun (r0 : Int × Bool × Unit) =>
 cnd (!r0.2.1) (obL [.rc 17] (c 84 [yI (11 : Int), yI (List.length a0 : Int)]) fun (r1 : G.X × Unit) =>
 some [yS 19 ([] : List G.K), yR 17 r1.1]) (cnd (decide ((List.length a0 : Int) ≤ r0.1)) (chk (Nat.ble ((List.length a4 + List.length ([(G.K.mk (0 : Int) (List.length a0 : Int) ([] : List UInt8) ([] : List UInt8) ([] : List UInt8))] : List G.K)) * 64) 1073741824) <|
 some [yS 19 (a4 ++ ([(G.K.mk (0 : Int) (List.length a0 : Int) ([] : List UInt8) ([] : List UInt8) ([] : List UInt8))] : List G.K)), yR 17 (G.X.mk (0 : Int) (0 : Int))]) (obL [.rc 19, i6, .rc 17] (c 101 [yT a0, yI r0.1]) fun (r2 : G.K × Int × G.X × Unit) =>
 cnd (!decide (r2.2.2.1.err = (0 : Int))) (some [yS 19 ([] : List G.K), yR 17 r2.2.2.1]) (chk (Nat.ble ((List.length a4 + List.length ([r2.1] : List G.K)) * 64) 1073741824) <|
 n1 r2.2.1 a0 (a4 ++ ([r2.1] : List G.K)) b103)))
def V83x1 (n : Nt) : Int → List UInt8 → List G.K → G.X → Rt := fun x0 x1 x2 x3 => n [yI x0, yT x1, yS 19 x2, yR 17 x3]
def X83x1 := V83x1 (xE ii83 e [1, 1, 1, 1, 0, 0] vX (q83x1 c e))
theorem s83x0 : V83x0 (xF ii83 c e) = B83x0 c (X83x1 c e) := by kernel_rfl
theorem s83x1 (n1 : Nt) : V83x1 (xA ii83 c e [1, 1, 1, 1, 0, 0] vX (lpK U0 vX n1 (q83x1 c e))) = B83x1 c (V83x1 n1) := by kernel_rfl
def aAI (c : TC0) (L : Nat) : Nat → Int → List UInt8 → List G.K → G.X → Rt
 | 0 => fun _ _ _ _ => none
 | n + 1 => B83x1 c (aAI c L n)
theorem u83x1 (n : Nat) : V83x1 (xL ii83 c L [1, 1, 1, 1, 0, 0] vX (q83x1 c (cu c L)) n) = aAI c L n := by
 induction n with
 | zero => rfl
 | succ n ih => rw [eM, s83x1]; simp only [ih]; rfl
theorem w83x1 : X83x1 c (cu c L) = aAI c L L := u83x1 c L L
def F83 (c : TC0) (L : Nat) : List UInt8 → Rt := B83x0 c (aAI c L L)
theorem e83 : V83x0 (xF ii83 c (cu c L)) = F83 c L := by rw [s83x0]; simp only [w83x1]; rfl
theorem c83 (a0 : List UInt8) (L n : Nat) : CTp L (n + 1) 83 [yT a0] = F83 (CTp L n) L a0 := by rw [← e83]; exact cg (x := ii83) (by kernel_rfl) (by kernel_rfl) L n _
def q85x0 (c : TC0) (e : Cu) : Kt := xK ii85
def q85x1 (c : TC0) (e : Cu) : Kt := xT ii85 c e [1, 1, 1, 1] (q85x0 c e)
def q85x2 (c : TC0) (e : Cu) : Kt := cI U0 0 (q85x1 c e)
def B85x0 (c : TC0) (k1 : Bool → Int → Int → G.P → G.K → G.O → G.O → G.X → Rt) (a1 : Int) (b0 : G.P) : Rt :=
 ob (idx b0.t b0.pos) fun v0 =>
 cnd (decide (v0.kind = (0 : Int))) (obL [.rc 17] (c 84 [yI (11 : Int), yI v0.pos]) fun (r1 : G.X × Unit) =>
 some [yR 2 (G.O.mk (0 : Int) ([] : List UInt8) ([] : List UInt8) (G.Y.mk ([] : List UInt8) ([] : List UInt8)) ([] : List UInt8) ([] : List G.O)), yR 17 r1.1, yR 20 b0]) (cnd (decide (v0.kind = (2 : Int))) (k1 (decide (v0.kind = (2 : Int))) v0.kind a1 b0 v0 (G.O.mk (0 : Int) ([] : List UInt8) ([] : List UInt8) (G.Y.mk ([] : List UInt8) ([] : List UInt8)) ([] : List UInt8) ([] : List G.O)) (G.O.mk (0 : Int) ([] : List UInt8) ([] : List UInt8) (G.Y.mk ([] : List UInt8) ([] : List UInt8)) ([] : List UInt8) ([] : List G.O)) (G.X.mk (0 : Int) (0 : Int))) (k1 (decide (v0.kind = (3 : Int))) v0.kind a1 b0 v0 (G.O.mk (0 : Int) ([] : List UInt8) ([] : List UInt8) (G.Y.mk ([] : List UInt8) ([] : List UInt8)) ([] : List UInt8) ([] : List G.O)) (G.O.mk (0 : Int) ([] : List UInt8) ([] : List UInt8) (G.Y.mk ([] : List UInt8) ([] : List UInt8)) ([] : List UInt8) ([] : List G.O)) (G.X.mk (0 : Int) (0 : Int))))
def V85x0 (n : Nt) : Int → G.P → Rt := fun x0 x1 => n [yI x0, yR 20 x1]
def B85x1 (c : TC0) (k2 : List UInt8 → G.P → G.O → G.K → G.O → G.X → Rt) (a31 : Bool) (a24 : Int) (a1 : Int) (b0 : G.P) (b106 : G.K) (b107 : G.O) (b104 : G.O) (b105 : G.X) : Rt :=
 cnd a31 (obL [.rc 17] (c 84 [yI (12 : Int), yI b106.pos]) fun (r0 : G.X × Unit) =>
 some [yR 2 b107, yR 17 r0.1, yR 20 b0]) (cnd (decide (a24 = (5 : Int))) (some [yR 2 (G.O.mk (1 : Int) b106.text b106.den (G.Y.mk ([] : List UInt8) ([] : List UInt8)) ([] : List UInt8) ([] : List G.O)), yR 17 (G.X.mk (0 : Int) (0 : Int)), yR 20 (G.P.mk b0.l b0.current b0.t (IntKind.i64.wrap (b0.pos + (1 : Int))))]) (cnd (decide (a24 = (7 : Int))) (obL [.rc 2] (c 72 [yT b106.text]) fun (r1 : G.O × Unit) =>
 some [yR 2 r1.1, yR 17 (G.X.mk (0 : Int) (0 : Int)), yR 20 (G.P.mk b0.l b0.current b0.t (IntKind.i64.wrap (b0.pos + (1 : Int))))]) (cnd (decide (a24 = (6 : Int))) (cnd (decide (b106.package = ([] : List UInt8))) (k2 b0.current (G.P.mk b0.l b0.current b0.t (IntKind.i64.wrap (b0.pos + (1 : Int)))) b107 b106 b104 b105) (k2 b106.package (G.P.mk b0.l b0.current b0.t (IntKind.i64.wrap (b0.pos + (1 : Int)))) b107 b106 b104 b105)) (cnd (decide ((200 : Int) < a1)) (obL [.rc 17] (c 84 [yI (2 : Int), yI b106.pos]) fun (r2 : G.X × Unit) =>
 some [yR 2 b107, yR 17 r2.1, yR 20 b0]) (cnd (decide (b106.kind = (4 : Int))) (obL [.rc 2, .rc 17, .rc 20] (c 85 [yI (IntKind.i64.wrap (a1 + (1 : Int))), yR 20 (G.P.mk b0.l b0.current b0.t (IntKind.i64.wrap (b0.pos + (1 : Int))))]) fun (r3 : G.O × G.X × G.P × Unit) =>
 cnd (!decide (r3.2.1.err = (0 : Int))) (some [yR 2 b107, yR 17 r3.2.1, yR 20 r3.2.2.1]) (obL [.rc 1] (c 31 [yT ([113, 117, 111, 116, 101] : List UInt8)]) fun (r4 : G.Y × Unit) =>
 obL [.rc 2] (c 71 [yR 1 r4.1]) fun (r5 : G.O × Unit) =>
 obL [.rc 2] (c 74 [yS 2 ([r5.1, r3.1] : List G.O)]) fun (r6 : G.O × Unit) =>
 some [yR 2 r6.1, yR 17 r3.2.1, yR 20 r3.2.2.1])) (obL [.rc 2, .rc 17, .rc 20] (c 102 [yI (IntKind.i64.wrap (a1 + (1 : Int))), yR 20 (G.P.mk b0.l b0.current b0.t (IntKind.i64.wrap (b0.pos + (1 : Int))))]) fun (r7 : G.O × G.X × G.P × Unit) =>
 some [yR 2 r7.1, yR 17 r7.2.1, yR 20 r7.2.2.1]))))))
def V85x1 (n : Nt) : Bool → Int → Int → G.P → G.K → G.O → G.O → G.X → Rt := fun x0 x1 x2 x3 x4 x5 x6 x7 => n [yB x0, yI x1, yI x2, yR 20 x3, yR 19 x4, yR 2 x5, yR 2 x6, yR 17 x7]
def X85x1 := V85x1 (xD ii85 e [1, 1, 1, 0, 1, 0, 1, 1, 1, 0] aFV (q85x2 c e))
def B85x2 (c : TC0) (a8 : List UInt8) (b0 : G.P) (b107 : G.O) (b106 : G.K) (b104 : G.O) (b105 : G.X) : Rt :=
 obL [.rc 1, i6] (c 103 [yS 5 b0.l, yT a8, yT b106.text]) fun (r0 : G.Y × Int × Unit) =>
 cnd (!decide (r0.2.1 = (0 : Int))) (obL [.rc 17] (c 84 [yI r0.2.1, yI b106.pos]) fun (r1 : G.X × Unit) =>
 some [yR 2 b107, yR 17 r1.1, yR 20 b0]) (obL [.rc 2] (c 71 [yR 1 r0.1]) fun (r2 : G.O × Unit) =>
 some [yR 2 r2.1, yR 17 (G.X.mk (0 : Int) (0 : Int)), yR 20 b0])
def V85x2 (n : Nt) : List UInt8 → G.P → G.O → G.K → G.O → G.X → Rt := fun x0 x1 x2 x3 x4 x5 => n [yT x0, yR 20 x1, yR 2 x2, yR 19 x3, yR 2 x4, yR 17 x5]
def X85x2 := V85x2 (xD ii85 e [1, 1, 1, 0, 1, 0, 1, 1, 1, 0, 1, 1, 1, 1, 1, 1, 0, 1, 1, 1, 0] aFU (q85x2 c e))
theorem s85x0 : V85x0 (xF ii85 c e) = B85x0 c (X85x1 c e) := by kernel_rfl
theorem s85x1 : V85x1 (xA ii85 c e [1, 1, 1, 0, 1, 0, 1, 1, 1, 0] aFV (q85x2 c e)) = B85x1 c (X85x2 c e) := by kernel_rfl
theorem s85x2 : V85x2 (xA ii85 c e [1, 1, 1, 0, 1, 0, 1, 1, 1, 0, 1, 1, 1, 1, 1, 1, 0, 1, 1, 1, 0] aFU (q85x2 c e)) = B85x2 c := by kernel_rfl
def J85x2 (c : TC0) (L : Nat) : List UInt8 → G.P → G.O → G.K → G.O → G.X → Rt := B85x2 c
theorem j85x2 : X85x2 c (cu c L) = J85x2 c L := by rw [X85x2, aQ, s85x2]; rfl
def J85x1 (c : TC0) (L : Nat) : Bool → Int → Int → G.P → G.K → G.O → G.O → G.X → Rt := B85x1 c (J85x2 c L)
theorem j85x1 : X85x1 c (cu c L) = J85x1 c L := by rw [X85x1, aQ, s85x1]; simp only [j85x2]; rfl
def F85 (c : TC0) (L : Nat) : Int → G.P → Rt := B85x0 c (J85x1 c L)
theorem e85 : V85x0 (xF ii85 c (cu c L)) = F85 c L := by rw [s85x0]; simp only [j85x1]; rfl
theorem c85 (a1 : Int) (b0 : G.P) (L n : Nat) : CTp L (n + 1) 85 [yI a1, yR 20 b0] = F85 (CTp L n) L a1 b0 := by rw [← e85]; exact cg (x := ii85) (by kernel_rfl) (by kernel_rfl) L n _
def q94x0 (c : TC0) (e : Cu) : Kt := xK aDt
def q94x1 (c : TC0) (e : Cu) : Kt := xT aDt c e [1, 1] (q94x0 c e)
def q94x2 (c : TC0) (e : Cu) : Kt := cI U0 0 (q94x1 c e)
def q94x3 (c : TC0) (e : Cu) (n1 : Nt) : Kt := lpK U0 rH n1 (q94x2 c e)
def q94x4 (c : TC0) (e : Cu) (n1 : Nt) : Kt := xT aDt c e [1, 0, 1, 0, 0, 1, 1] (q94x3 c e n1)
def q94x5 (c : TC0) (e : Cu) (n1 : Nt) : Kt := cI U0 1 (q94x4 c e n1)
def q94x6 (c : TC0) (e : Cu) (n1 : Nt) : Kt := cI U0 2 (q94x5 c e n1)
def B94x0 (c : TC0) (e1 : List G.E → Int → G.Y → Rt) (a0 : List G.E) (a1 : G.Y) : Rt :=
 e1 a0 (0 : Int) a1
def V94x0 (n : Nt) : List G.E → G.Y → Rt := fun x0 x1 => n [yS 15 x0, yR 1 x1]
def B94x1 (c : TC0) (e2 : List G.F → Int → Int → List G.E → G.Y → Rt) (a0 : List G.E) (a7 : Int) (b103 : G.Y) : Rt :=
 cnd (decide (a7 < (List.length a0 : Int))) (ob (idx a0 a7) fun v0 =>
 obL [zS 4] (c 95 [yR 15 v0]) fun (r1 : List G.F × Unit) =>
 e2 r1.1 (0 : Int) a7 a0 b103) (some [yI (0 : Int), yI (0 : Int), yB false])
def aDM (n : Nt) : List G.E → Int → G.Y → Rt := fun x0 x1 x2 => n [yS 15 x0, yI x1, yR 1 x2]
def X94x1 := aDM (xE aDt e [1, 0, 1, 0, 0] rH (q94x2 c e))
def B94x2 (c : TC0) (n2 : List G.F → Int → Int → List G.E → G.Y → Rt) (n1 : List G.E → Int → G.Y → Rt) (a8 : List G.F) (a9 : Int) (a7 : Int) (a0 : List G.E) (b103 : G.Y) : Rt :=
 cnd (decide (a9 < (List.length a8 : Int))) (ob (idx a8 a9) fun v0 =>
 cnd (decide (v0.name = b103)) (some [yI a7, yI a9, yB true]) (n2 a8 (IntKind.i64.wrap (a9 + (1 : Int))) a7 a0 b103)) (n1 a0 (IntKind.i64.wrap (a7 + (1 : Int))) b103)
def V94x2 (n : Nt) : List G.F → Int → Int → List G.E → G.Y → Rt := fun x0 x1 x2 x3 x4 => n [yS 4 x0, yI x1, yI x2, yS 15 x3, yR 1 x4]
def X94x2 (n1 : Nt) := V94x2 (xE aDt e [1, 0, 1, 0, 0, 1, 0, 0, 1, 1, 0, 0] vW (q94x6 c e n1))
theorem s94x0 : V94x0 (xF aDt c e) = B94x0 c (X94x1 c e) := by kernel_rfl
theorem s94x1 (n1 : Nt) : aDM (xA aDt c e [1, 0, 1, 0, 0] rH (lpK U0 rH n1 (q94x2 c e))) = B94x1 c (X94x2 c e n1) := by kernel_rfl
theorem s94x2 (n2 : Nt) (n1 : Nt) : V94x2 (xA aDt c e [1, 0, 1, 0, 0, 1, 0, 0, 1, 1, 0, 0] vW (lpK U0 vW n2 (q94x6 c e n1))) = B94x2 c (V94x2 n2) (aDM n1) := by kernel_rfl
def aAG (c : TC0) (L : Nat) (n1 : List G.E → Int → G.Y → Rt) : Nat → List G.F → Int → Int → List G.E → G.Y → Rt
 | 0 => fun _ _ _ _ _ => none
 | n + 1 => B94x2 c (aAG c L n1 n) n1
theorem u94x2 (n1 : Nt) (n : Nat) : V94x2 (xL aDt c L [1, 0, 1, 0, 0, 1, 0, 0, 1, 1, 0, 0] vW (q94x6 c (cu c L) n1) n) = aAG c L (aDM n1) n := by
 induction n with
 | zero => rfl
 | succ n ih => rw [eM, s94x2]; simp only [ih]; rfl
theorem w94x2 (n1 : Nt) : X94x2 c (cu c L) n1 = aAG c L (aDM n1) L := u94x2 c L n1 L
def aAH (c : TC0) (L : Nat) : Nat → List G.E → Int → G.Y → Rt
 | 0 => fun _ _ _ => none
 | n + 1 => B94x1 c (aAG c L (aAH c L n) L)
theorem u94x1 (n : Nat) : aDM (xL aDt c L [1, 0, 1, 0, 0] rH (q94x2 c (cu c L)) n) = aAH c L n := by
 induction n with
 | zero => rfl
 | succ n ih => rw [eM, s94x1]; simp only [w94x2, ih]; rfl
theorem w94x1 : X94x1 c (cu c L) = aAH c L L := u94x1 c L L
def F94 (c : TC0) (L : Nat) : List G.E → G.Y → Rt := B94x0 c (aAH c L L)
theorem e94 : V94x0 (xF aDt c (cu c L)) = F94 c L := by rw [s94x0]; simp only [w94x1]; rfl
theorem c94 (a0 : List G.E) (a1 : G.Y) (L n : Nat) : CTp L (n + 1) 94 [yS 15 a0, yR 1 a1] = F94 (CTp L n) L a0 a1 := by rw [← e94]; exact cg (x := aDt) (by kernel_rfl) (by kernel_rfl) L n _
end
end Go.TV
namespace Go.TV
open Go.AI Go.PI Go.Proofs
theorem wrapm {k : Nat} (h : k < 4000000000000000000) : IntKind.i64.wrap (((k + 1 : Nat) : Int) - 1) = (k : Int) := by
 unfold IntKind.wrap
 simp [IntKind.bits, IntKind.signed]
 omega
theorem EqP_loop {c : TC0} {L : Nat} {n1 : G.O → G.O → Rt} {a b : G.O} (hl : a.pair.length = b.pair.length) (hb : a.pair.length < 1000000000)
    {s : Nat} (hs : a.pair.length = s + 1) : ∀ (l : List G.O) (x : G.O) (r : List G.O) (k m : Nat), a.pair.drop k = x :: l → b.pair.drop k = r → l.length < m →
    (∀ x, x ∈ a.pair → ∀ y, c 79 (oo x y) = some (bb (decide (x = y)))) → (∀ x, x ∈ a.pair → ∀ y, n1 x y = some (bb (decide (x = y)))) →
    aAL c L n1 m (s : Int) (k : Int) ((s + 1 : Nat) : Int) a b = some (bb (decide (x :: l = r))) := by
 intro l
 induction l with
 | nil =>
  intro x r k m h1 h2 h3 hc hn
  obtain ⟨m, rfl⟩ : ∃ m', m = m' + 1 := ⟨m - 1, by simp at h3; omega⟩
  obtain ⟨a1, a2, a3⟩ := aL h1
  have hk : k = s := by have := aK a3; omega
  subst hk
  cases r with
  | nil => have := aK h2; omega
  | cons y r =>
   obtain ⟨b1, b2, b3⟩ := aL h2
   have hr : r = [] := by rw [← b3]; exact List.drop_eq_nil_of_le (by omega)
   subst hr
   have e3 : decide ((k : Int) < (k : Int)) = false := by simp
   rw [aAL, B79x3, e3, aE, wrapm (by omega), aJ, aJ, a1, b1, cO, cO, hn x (List.mem_of_getElem? a1)]
   simp
 | cons z l ih =>
  intro x r k m h1 h2 h3 hc hn
  obtain ⟨m, rfl⟩ : ∃ m', m = m' + 1 := ⟨m - 1, by simp at h3; omega⟩
  obtain ⟨a1, a2, a3⟩ := aL h1
  obtain ⟨a4, a5, a6⟩ := aL a3
  cases r with
  | nil => have := aK h2; omega
  | cons y r =>
   obtain ⟨b1, b2, b3⟩ := aL h2
   have e3 : decide ((k : Int) < (s : Int)) = true := by simp; omega
   have hxy : c 79 [yR 2 x, yR 2 y] = some [yB (decide (x = y))] := hc x (List.mem_of_getElem? a1) y
   rw [aAL, B79x3, e3, aM, aJ, aJ, a1, b1, cO, cO, hxy, bN, bO (by omega)]
   by_cases e : x = y
   ·subst e
    simp only [decide_true, bnT, aE]
    rw [ih z r (k + 1) m a3 b3 (by simp at h3; omega) hc hn]
    simp
   ·simp only [e, decide_false, Bool.not_false, aM]
    simp [e, bb]
theorem EqW_ok : ∀ (a : G.O), wfO a → ∀ (b : G.O) (L n m : Nat), osz a ≤ L → osz a ≤ n → osz a ≤ m → xP (CTp L n) L m a b = some (bb (decide (a = b))) := by
 intro a
 induction a using aFc with
 | h k nu d s t l ih =>
  intro hw b L n m hL hn hm
  simp only [wfO, osz] at hw hL hn hm
  have hlen := zE l
  obtain ⟨m, rfl⟩ : ∃ n', m = n' + 1 := ⟨m - 1, by omega⟩
  obtain ⟨n, rfl⟩ : ∃ n', n = n' + 1 := ⟨n - 1, by omega⟩
  cases b with | mk k' nu' d' s' t' l' =>
  rw [xP]
  simp only [J79x2, B79x1, B79x2, G.O.kind, G.O.num, G.O.den, G.O.sym, G.O.text, G.O.pair, G.O.mk.injEq]
  by_cases e1 : k = k'
  ·by_cases e2 : nu = nu'
   ·by_cases e3 : d = d'
    ·by_cases e4 : s = s'
     ·by_cases e5 : t = t'
      ·by_cases e6 : (l.length : Int) = (l'.length : Int)
       ·simp only [e1, e2, e3, e4, e5, e6, decide_true, bnT, aE, aM, true_and]
        cases l with
        | nil =>
         have : l' = [] := List.eq_nil_of_length_eq_zero (by simp at e6; omega)
         subst this
         simp [cnd, bb]
        | cons x l =>
         have e7 : decide ((l'.length : Int) = 0) = false := by simp only [lcS] at e6; simp; intro h; simp [h] at e6; omega
         rw [e7, aE, ← e6]
         have hW : ∀ y, y ∈ x :: l → ∀ z, xP (CTp L (n + 1)) L m y z = some (bb (decide (y = z))) := fun y hy z =>
          ih y hy (by have := eK hy; simp only [wfO]; omega) z L (n + 1) m (by have := eK hy; omega) (by have := eK hy; omega) (by have := eK hy; omega)
         have hC : ∀ y, y ∈ x :: l → ∀ z, CTp L (n + 1) 79 (oo y z) = some (bb (decide (y = z))) := fun y hy z => by
          show CTp L (n + 1) 79 [yR 2 _, yR 2 _] = _
          rw [c79]
          exact ih y hy (by have := eK hy; simp only [wfO]; omega) z L n L (by have := eK hy; omega) (by have := eK hy; omega) (by have := eK hy; omega)
         have hz : IntKind.i64.wrap (((x :: l).length : Int) - 1) = (l.length : Int) := wrapm (by simp only [lcS] at hlen; omega)
         rw [hz]
         have := EqP_loop (c := CTp L (n + 1)) (L := L) (n1 := fun x0 x1 => xP (CTp L (n + 1)) L m x0 x1) (a := ⟨k, nu, d, s, t, x :: l⟩) (b := ⟨k', nu', d', s', t', l'⟩) (s := l.length) (by show (x :: l).length = l'.length; omega) (by show (x :: l).length < _; omega) rfl l x l' 0 L rfl rfl (by simp only [lcS] at hlen; omega) hC hW
         subst e1 e2 e3 e4 e5
         exact this
       ·have e7 : ¬ l = l' := fun h => e6 (by rw [h])
        simp [e1, e2, e3, e4, e5, e6, e7, cnd, bb]
      ·simp [e1, e2, e3, e4, e5, cnd, bb]
     ·simp [e1, e2, e3, e4, cnd, bb]
    ·simp [e1, e2, e3, cnd, bb]
   ·simp [e1, e2, cnd, bb]
  ·simp [e1, cnd, bb]
theorem EqOb_ok (a : G.O) (hw : wfO a) (b : G.O) (L n : Nat) (hL : osz a ≤ L) (hn : osz a < n) : CTp L n 79 (oo a b) = some (bb (decide (a = b))) := by
 obtain ⟨n, rfl⟩ : ∃ n', n = n' + 1 := ⟨n - 1, by omega⟩
 show CTp L (n + 1) 79 [yR 2 _, yR 2 _] = _
 rw [c79]
 exact EqW_ok a hw b L n L hL (by omega) hL
theorem EqB_loop {c : TC0} {L : Nat} {a b : List G.T} (hl : a.length = b.length) (hb : a.length < 1000000000) : ∀ (l r : List G.T) (k m : Nat), a.drop k = l → b.drop k = r → l.length < m →
    (∀ x, x ∈ l → ∀ y, c 53 (tt2 x y) = some (bb (decide (x = y)))) → aAK c L m (a.length : Int) a b (k : Int) = some (bb (decide (l = r))) := by
 intro l
 induction l with
 | nil =>
  intro r k m h1 h2 h3 _
  obtain ⟨m, rfl⟩ : ∃ m', m = m' + 1 := ⟨m - 1, by simp at h3; omega⟩
  have e1 := aK h1
  have e2 : r = [] := by rw [← h2]; exact List.drop_eq_nil_of_le (by omega)
  have e3 : decide ((k : Int) < (a.length : Int)) = false := by simp; omega
  rw [aAK, B80x1, e3, e2]
  simp only [aE, decide_true]; rfl
 | cons x l ih =>
  intro r k m h1 h2 h3 hc
  obtain ⟨m, rfl⟩ : ∃ m', m = m' + 1 := ⟨m - 1, by simp at h3; omega⟩
  obtain ⟨a1, a2, a3⟩ := aL h1
  cases r with
  | nil => have := aK h2; omega
  | cons y r =>
   obtain ⟨b1, b2, b3⟩ := aL h2
   have e3 : decide ((k : Int) < (a.length : Int)) = true := by simp; omega
   have hxy : c 53 [yR 3 x, yR 3 y] = some [yB (decide (x = y))] := hc x (mhE ..) y
   rw [aAK, B80x1, e3, aM, aJ, aJ, a1, b1, cO, cO, hxy, bN, bO (by omega)]
   by_cases e : x = y
   ·subst e
    simp only [decide_true, bnT, aE]
    rw [ih r (k + 1) m a3 b3 (by simp at h3; omega) fun z hz => hc z (mtE _ hz)]
    simp
   ·simp only [e, decide_false, Bool.not_false, aM]
    simp [e, bb]
theorem EqF_of {a b : List G.T} {L n : Nat} (hw : a.length < 1000000000) (hL : a.length < L) (hx : ∀ x, x ∈ a → ∀ y, CTp L n 53 (tt2 x y) = some (bb (decide (x = y)))) :
    CTp L (n + 1) 80 (ll2 a b) = some (bb (decide (a = b))) := by
 show CTp L (n + 1) 80 [yS 3 _, yS 3 _] = _
 rw [c80]
 simp only [F80, B80x0]
 by_cases e6 : (a.length : Int) = (b.length : Int)
 ·have := EqB_loop (c := CTp L n) (L := L) (by omega) hw a b 0 L rfl rfl hL hx
  rw [e6] at this
  simp only [e6, decide_true, bnT, aE]
  exact this
 ·have e7 : ¬ a = b := fun h => e6 (by rw [h])
  simp [e6, e7, cnd, bb]
theorem TEq_ok : ∀ (a : G.T), wfT a → ∀ (b : G.T) (L n : Nat), tsz a ≤ L → tsz a ≤ n → CTp L n 53 (tt2 a b) = some (bb (decide (a = b))) := by
 intro a
 induction a using bP with
 | h k nm v l ih =>
  intro hw b L n hL hn
  simp only [wfT, tsz] at hw hL hn
  have hlen := cG l
  obtain ⟨n, rfl⟩ : ∃ n', n = n' + 2 := ⟨n - 2, by omega⟩
  cases b with | mk k' nm' v' l' =>
  show CTp L (n + 1 + 1) 53 [yR 3 _, yR 3 _] = _
  rw [c53]
  have hv : CTp L (n + 1) 79 [yR 2 v, yR 2 v'] = some [yB (decide (v = v'))] := EqOb_ok v (by simp only [wfO]; omega) v' L (n + 1) (by omega) (by omega)
  have hl : CTp L (n + 1) 80 [yS 3 l, yS 3 l'] = some [yB (decide (l = l'))] := EqF_of (by omega) (by omega) fun x hx y => ih x hx (by have := aG hx; simp only [wfT]; omega) y L n (by have := aG hx; omega) (by have := aG hx; omega)
  simp only [F53, B53x0, J53x1, B53x1, G.T.kind, G.T.name, G.T.value, G.T.args, G.T.mk.injEq, hv, hl, bN]
  by_cases e1 : k = k'
  ·by_cases e2 : nm = nm'
   ·by_cases e3 : v = v'
    ·simp [e1, e2, e3, cnd, bb]
    ·simp [e1, e2, e3, cnd, bb]
   ·simp [e1, e2, cnd, bb]
  ·simp [e1, cnd, bb]
end Go.TV
namespace Go.TV
open Go.AI Go.PI Go.Proofs
theorem sY {β : Type} {b : List G.T} {K : List G.T × Unit → Option β} : obL (D := U0.D) [.sl (.rc 3)] (some [yS 3 b]) K = K (b, ()) := rfl
theorem nO {β : Type} {A : Option β} : chk true A = A := rfl
theorem wrapn {k : Nat} (h : k < 4000000000000000000) : IntKind.i64.wrap (k : Int) = (k : Int) := by
 unfold IntKind.wrap
 simp [IntKind.bits, IntKind.signed]
 omega
theorem Con_loop {c : TC0} {L : Nat} {t : G.T} {a : List G.T} (hb : a.length < 1000000000) : ∀ (l : List G.T) (k m : Nat), a.drop k = l → l.length < m →
    (∀ x, x ∈ l → c 9 (tt2 x t) = some (bb (decide (x = t)))) → aAR c L m a (k : Int) t = some (bb (decide (t ∈ l))) := by
 intro l
 induction l with
 | nil =>
  intro k m h1 h3 _
  obtain ⟨m, rfl⟩ : ∃ m', m = m' + 1 := ⟨m - 1, by simp at h3; omega⟩
  have e1 := aK h1
  have e3 : decide ((k : Int) < (a.length : Int)) = false := by simp; omega
  rw [aAR, B50x1, e3, aE]; simp [bb]
 | cons x l ih =>
  intro k m h1 h3 hc
  obtain ⟨m, rfl⟩ : ∃ m', m = m' + 1 := ⟨m - 1, by simp at h3; omega⟩
  obtain ⟨a1, a2, a3⟩ := aL h1
  have e3 : decide ((k : Int) < (a.length : Int)) = true := by simp; omega
  have hxy : c 9 [yR 3 x, yR 3 t] = some [yB (decide (x = t))] := hc x (mhE ..)
  rw [aAR, B50x1, e3, aM, aJ, a1, cO, hxy, bN, bO (by omega)]
  by_cases e : x = t
  ·subst e; simp [cnd, bb]
  ·have e' : ¬ t = x := fun h => e h.symm
   simp only [e, decide_false, aE]
   rw [ih (k + 1) m a3 (by simp at h3; omega) fun z hz => hc z (mtE _ hz)]
   simp [e']
def lt2 (a : List G.T) (t : G.T) : TVs := [yS 3 a, yR 3 t]
def tl1 (a : List G.T) : TVs := [yS 3 a]
theorem Con_ok {a : List G.T} {t : G.T} {L n : Nat} (hw : aU a < 1000000000) (hL : aU a < L) (hn : aU a < n) : CTp L n 50 (lt2 a t) = some (bb (decide (t ∈ a))) := by
 have hlen := cG a
 obtain ⟨n, rfl⟩ : ∃ n', n = n' + 1 := ⟨n - 1, by omega⟩
 show CTp L (n + 1) 50 [yS 3 _, yR 3 _] = _
 rw [c50]
 exact Con_loop (by omega) a 0 L rfl (by omega) fun x hx => aCX x (by have := aG hx; simp only [wfT]; omega) t L n (by have := aG hx; omega) (by have := aG hx; omega)
theorem args_ok {t : G.T} {L n : Nat} : CTp L (n + 1) 58 [yR 3 t] = some (tl1 (if t.kind = 3 then t.args else [])) := by
 rw [c58]
 by_cases h : t.kind = 3 <;> simp [F58, B58x0, h, cnd, tl1]
mutual
noncomputable def occ (s : G.T) : G.T → Bool
 | ⟨k, n, v, l⟩ => decide (s = ⟨k, n, v, l⟩) || (decide (k = 3) && uF s l)
noncomputable def uF (s : G.T) : List G.T → Bool
 | [] => false
 | x :: l => occ s x || uF s l
end
theorem aCV {c : TC0} {L : Nat} {s : G.T} {a : List G.T} (hb : a.length < 1000000000) : ∀ (l : List G.T) (k m : Nat), a.drop k = l → l.length < m →
    (∀ x, x ∈ l → c 24 (tt2 s x) = some (bb (occ s x))) → aAV c L m a (k : Int) s = some (bb (uF s l)) := by
 intro l
 induction l with
 | nil =>
  intro k m h1 h3 _
  obtain ⟨m, rfl⟩ : ∃ m', m = m' + 1 := ⟨m - 1, by simp at h3; omega⟩
  have e1 := aK h1
  have e3 : decide ((k : Int) < (a.length : Int)) = false := by simp; omega
  rw [aAV, B24x1, e3, aE, uF]; rfl
 | cons x l ih =>
  intro k m h1 h3 hc
  obtain ⟨m, rfl⟩ : ∃ m', m = m' + 1 := ⟨m - 1, by simp at h3; omega⟩
  obtain ⟨a1, a2, a3⟩ := aL h1
  have e3 : decide ((k : Int) < (a.length : Int)) = true := by simp; omega
  have hxy : c 24 [yR 3 s, yR 3 x] = some [yB (occ s x)] := hc x (mhE ..)
  rw [aAV, B24x1, e3, aM, aJ, a1, cO, hxy, bN, bO (by omega), uF]
  cases occ s x with
  | true => simp [cnd, bb]
  | false =>
   simp only [aE]
   rw [ih (k + 1) m a3 (by simp at h3; omega) fun z hz => hc z (mtE _ hz)]
   simp
theorem aCU (s : G.T) (hs : wfT s) : ∀ (t : G.T), wfT t → ∀ (L n : Nat), tsz s + tsz t ≤ L → tsz s + tsz t ≤ n → CTp L n 24 (tt2 s t) = some (bb (occ s t)) := by
 intro t
 induction t using bP with
 | h k nm v l ih =>
  intro hw L n hL hn
  simp only [wfT, tsz] at hw hL hn
  have hlen := cG l
  obtain ⟨n, rfl⟩ : ∃ n', n = n' + 2 := ⟨n - 2, by omega⟩
  show CTp L (n + 1 + 1) 24 [yR 3 _, yR 3 _] = _
  rw [c24]
  have h9 : CTp L (n + 1) 9 [yR 3 s, yR 3 ⟨k, nm, v, l⟩] = some [yB (decide (s = ⟨k, nm, v, l⟩))] := aCX s hs _ L (n + 1) (by omega) (by omega)
  have h58 : ∃ al : List G.T, CTp L (n + 1) 58 [yR 3 ⟨k, nm, v, l⟩] = some [yS 3 al] ∧ (k = 3 → al = l) ∧ (¬ k = 3 → al = []) := by
   refine ⟨if k = 3 then l else [], args_ok, fun h => by simp [h], fun h => by simp [h]⟩
  obtain ⟨al, h58, q1, q2⟩ := h58
  rw [F24, B24x0, h9, bN, h58, sY, occ]
  by_cases e : s = ⟨k, nm, v, l⟩
  ·simp [e, cnd, bb]
  ·simp only [e, decide_false, aE, Bool.false_or]
   by_cases e2 : k = 3
   ·rw [q1 e2]
    simp only [e2, decide_true, Bool.true_and]
    exact aCV (by omega) l 0 L rfl (by omega) fun x hx => ih x hx (by have := aG hx; simp only [wfT]; omega) L (n + 1) (by have := aG hx; omega) (by have := aG hx; omega)
   ·rw [q2 e2]
    simp only [e2, decide_false, Bool.false_and]
    exact aCV (a := []) (by simp) [] 0 L rfl (by simp; omega) fun x hx => by cases hx
theorem aHh {c : TC0} {L : Nat} {a b : List G.T} (hl : a.length = b.length) (hb : a.length < 1000000000) : ∀ (l r : List G.T) (k m : Nat), a.drop k = l → b.drop k = r → l.length < m →
    (∀ x, x ∈ l → ∀ y, c 9 (tt2 x y) = some (bb (decide (x = y)))) → W6x1 c L m a b (k : Int) = some (bb (decide (l = r))) := by
 intro l
 induction l with
 | nil =>
  intro r k m h1 h2 h3 _
  obtain ⟨m, rfl⟩ : ∃ m', m = m' + 1 := ⟨m - 1, by simp at h3; omega⟩
  have e1 := aK h1
  have e2 : r = [] := by rw [← h2]; exact List.drop_eq_nil_of_le (by omega)
  have e3 : decide ((k : Int) < (a.length : Int)) = false := by simp; omega
  rw [W6x1, B6x1, e3, e2]
  simp only [aE, decide_true]; rfl
 | cons x l ih =>
  intro r k m h1 h2 h3 hc
  obtain ⟨m, rfl⟩ : ∃ m', m = m' + 1 := ⟨m - 1, by simp at h3; omega⟩
  obtain ⟨a1, a2, a3⟩ := aL h1
  cases r with
  | nil => have := aK h2; omega
  | cons y r =>
   obtain ⟨b1, b2, b3⟩ := aL h2
   have e3 : decide ((k : Int) < (a.length : Int)) = true := by simp; omega
   have hxy : c 9 [yR 3 x, yR 3 y] = some [yB (decide (x = y))] := hc x (mhE ..) y
   rw [W6x1, B6x1, e3, aM, aJ, aJ, a1, b1, cO, cO, hxy, bN, bO (by omega)]
   by_cases e : x = y
   ·subst e
    simp only [decide_true, bnT, aE]
    rw [ih r (k + 1) m a3 b3 (by simp at h3; omega) fun z hz => hc z (mtE _ hz)]
    simp
   ·simp only [e, decide_false, Bool.not_false, aM]
    simp [e, bb]
theorem Same_ok {a b : List G.T} {L n : Nat} (hw : aU a < 1000000000) (hL : aU a < L) (hn : aU a < n) : CTp L n 6 (ll2 a b) = some (bb (decide (a = b))) := by
 have hlen := cG a
 obtain ⟨n, rfl⟩ : ∃ n', n = n' + 1 := ⟨n - 1, by omega⟩
 show CTp L (n + 1) 6 [yS 3 _, yS 3 _] = _
 rw [c6]
 simp only [F6, B6x0]
 by_cases e6 : (a.length : Int) = (b.length : Int)
 ·simp only [e6, decide_true, bnT, aE]
  exact aHh (c := CTp L n) (L := L) (by omega) (by omega) a b 0 L rfl rfl (by omega) fun x hx y => aCX x (by have := aG hx; simp only [wfT]; omega) y L n (by have := aG hx; omega) (by have := aG hx; omega)
 ·have e7 : ¬ a = b := fun h => e6 (by rw [h])
  simp [e6, e7, cnd, bb]
end Go.TV
namespace Go.TV
open Go.AI Go.PI Go.Proofs
noncomputable def qE (acc : List G.T) (t : G.T) : List G.T := if t ∈ acc then acc else acc ++ [t]
mutual
noncomputable def sub (acc : List G.T) : G.T → List G.T
 | ⟨k, n, v, l⟩ => if k = 3 then fQ (qE acc ⟨k, n, v, l⟩) l else qE acc ⟨k, n, v, l⟩
noncomputable def fQ (acc : List G.T) : List G.T → List G.T
 | [] => acc
 | x :: l => fQ (sub acc x) l
end
theorem tU (acc : List G.T) (t : G.T) : (qE acc t).length ≤ acc.length + 1 := by
 unfold qE; split <;> simp
theorem tW {acc : List G.T} {t : G.T} {B : Nat} (h : ∀ y ∈ acc, tsz y ≤ B) (ht : tsz t ≤ B) : ∀ y ∈ qE acc t, tsz y ≤ B := by
 unfold qE; split
 ·exact h
 ·intro y hy
  rcases List.mem_append.1 hy with hy | hy
  ·exact h y hy
  ·simp at hy; subst hy; exact ht
theorem sub'_len {l : List G.T} (ih : ∀ x ∈ l, ∀ acc, (sub acc x).length ≤ acc.length + tsz x) : ∀ acc, (fQ acc l).length ≤ acc.length + aU l := by
 induction l with
 | nil => intro acc; simp [fQ, aU]
 | cons x l ih2 =>
  intro acc
  simp only [fQ, aU]
  have h1 := ih2 (fun y hy => ih y (mtE _ hy)) (sub acc x)
  have h2 := ih x (mhE ..) acc
  omega
theorem yU : ∀ (t : G.T) (acc : List G.T), (sub acc t).length ≤ acc.length + tsz t := by
 intro t
 induction t using bP with
 | h k n v l ih =>
  intro acc
  simp only [sub, tsz]
  have h1 := tU acc ⟨k, n, v, l⟩
  split
  ·have := sub'_len ih (qE acc ⟨k, n, v, l⟩); omega
  ·omega
theorem sub'_all {l : List G.T} {B : Nat} (ih : ∀ x ∈ l, ∀ acc, (∀ y ∈ acc, tsz y ≤ B) → tsz x ≤ B → ∀ y ∈ sub acc x, tsz y ≤ B) : (∀ x ∈ l, tsz x ≤ B) → ∀ acc, (∀ y ∈ acc, tsz y ≤ B) → ∀ y ∈ fQ acc l, tsz y ≤ B := by
 induction l with
 | nil => intro _ acc h; exact h
 | cons x l ih2 =>
  intro hl acc h
  simp only [fQ]
  exact ih2 (fun y hy => ih y (mtE _ hy)) (fun y hy => hl y (mtE _ hy)) _ (ih x (mhE ..) acc h (hl x (mhE ..)))
theorem yV {B : Nat} : ∀ (t : G.T) (acc : List G.T), (∀ y ∈ acc, tsz y ≤ B) → tsz t ≤ B → ∀ y ∈ sub acc t, tsz y ≤ B := by
 intro t
 induction t using bP with
 | h k n v l ih =>
  intro acc h ht
  simp only [sub]
  have h1 := tW h ht
  simp only [tsz] at ht
  split
  ·exact sub'_all (fun x hx acc h1 h2 => ih x hx acc h1 h2) (fun x hx => by have := aG hx; omega) _ h1
  ·exact h1
theorem aCr {a : Nat} (h : a < 6000000) : Nat.ble ((a + 1) * 176) 1073741824 = true := by
 apply Nat.ble_eq_true_of_le; omega
theorem aEr {c : TC0} {L : Nat} {t : G.T} {acc : List G.T} (hb : acc.length < 6000000) : ∀ (l : List G.T) (k m : Nat), acc.drop k = l → l.length + 1 < m →
    (∀ x, x ∈ l → c 9 (tt2 x t) = some (bb (decide (x = t)))) → qG c L m (k : Int) false acc t = aDN c L (if t ∈ l then acc else acc ++ [t]) t := by
 intro l
 induction l with
 | nil =>
  intro k m h1 h3 _
  obtain ⟨m, rfl⟩ : ∃ m', m = m' + 1 := ⟨m - 1, by simp at h3; omega⟩
  have e1 := aK h1
  have e3 : decide ((k : Int) < (acc.length : Int)) = false := by simp; omega
  rw [qG, aHE, e3, aE, aA7, aHD]
  simp only [aE, Bool.not_false, aM, lcS, lnN, Nat.zero_add, aCr hb, nO]
  simp
 | cons x l ih =>
  intro k m h1 h3 hc
  obtain ⟨m, rfl⟩ : ∃ m', m = m' + 2 := ⟨m - 2, by simp at h3; omega⟩
  obtain ⟨a1, a2, a3⟩ := aL h1
  have e3 : decide ((k : Int) < (acc.length : Int)) = true := by simp; omega
  have hxy : c 9 [yR 3 x, yR 3 t] = some [yB (decide (x = t))] := hc x (mhE ..)
  rw [qG, aHE, e3, aM, aA7, aHD]
  simp only [Bool.not_false, aM]
  rw [aJ, a1, cO, hxy, bN, bO (by omega)]
  by_cases e : x = t
  ·subst e
   simp only [decide_true]
   rw [qG, aHE]
   have : ∀ b : Bool, cnd b (aA7 c L (qG c L m) (!true) ((k + 1 : Nat) : Int) true acc x) (aA7 c L (qG c L m) false ((k + 1 : Nat) : Int) true acc x) = aDN c L acc x := by
    intro b
    cases b <;> simp [cnd, aA7, aHD]
   rw [this]; simp
  ·have e' : ¬ t = x := fun h => e h.symm
   simp only [e, decide_false]
   rw [ih (k + 1) (m + 1) a3 (by simp at h3; omega) fun z hz => hc z (mtE _ hz)]
   simp [e']
theorem aEq {c : TC0} {L B M : Nat} {t : G.T} (hb : t.args.length < 1000000000) : ∀ (l acc : List G.T) (k m : Nat), t.args.drop k = l → l.length < m → (∀ y ∈ acc, tsz y ≤ B) → (∀ y ∈ l, tsz y ≤ B) → acc.length + aU l ≤ M →
    (∀ x, x ∈ l → ∀ acc : List G.T, (∀ y ∈ acc, tsz y ≤ B) → acc.length + tsz x ≤ M → c 54 (lt2 acc x) = some (tl1 (sub acc x))) → aAP c L m (k : Int) acc t = some (tl1 (fQ acc l)) := by
 intro l
 induction l with
 | nil =>
  intro acc k m h1 h3 _ _ _ _
  obtain ⟨m, rfl⟩ : ∃ m', m = m' + 1 := ⟨m - 1, by simp at h3; omega⟩
  have e1 := aK h1
  have e3 : decide ((k : Int) < (t.args.length : Int)) = false := by simp; omega
  rw [aAP, B54x4, e3, aE]; rfl
 | cons x l ih =>
  intro acc k m h1 h3 h4 h5 h6 hc
  obtain ⟨m, rfl⟩ : ∃ m', m = m' + 1 := ⟨m - 1, by simp at h3; omega⟩
  obtain ⟨a1, a2, a3⟩ := aL h1
  simp only [aU] at h6
  have e3 : decide ((k : Int) < (t.args.length : Int)) = true := by simp; omega
  have hx := h5 x (mhE ..)
  have hxy : c 54 [yS 3 acc, yR 3 x] = some [yS 3 (sub acc x)] := hc x (mhE ..) acc h4 (by omega)
  rw [aAP, B54x4, e3, aM, aJ, a1, cO, hxy, sY, bO (by omega)]
  exact ih (sub acc x) (k + 1) m a3 (by simp at h3; omega) (yV x acc h4 hx) (fun y hy => h5 y (mtE _ hy)) (by have := yU x acc; omega) fun z hz => hc z (mtE _ hz)
theorem sub_ok {B M : Nat} (hB : B < 1000000000) (hM : M < 6000000) : ∀ (t : G.T) (acc : List G.T) (L n : Nat), (∀ y ∈ acc, tsz y ≤ B) → tsz t ≤ B → acc.length + tsz t ≤ M → B + M + 2 ≤ L → B + tsz t ≤ n →
    CTp L n 54 (lt2 acc t) = some (tl1 (sub acc t)) := by
 intro t
 induction t using bP with
 | h k nm v l ih =>
  intro acc L n h1 h2 h3 hL hn
  have h2' := h2
  simp only [tsz] at h2 h3 hn
  have hlen := cG l
  obtain ⟨n, rfl⟩ : ∃ n', n = n' + 1 := ⟨n - 1, by omega⟩
  show CTp L (n + 1) 54 [yS 3 _, yR 3 _] = _
  rw [c54, F54, B54x0]
  have := aEr (c := CTp L n) (L := L) (t := ⟨k, nm, v, l⟩) (acc := acc) (by omega) acc 0 L rfl (by omega) fun x hx => aCX x (by have := h1 x hx; simp only [wfT]; omega) _ L n (by have := h1 x hx; omega) (by have := h1 x hx; omega)
  refine this.trans ?_
  change aDN _ L (qE acc ⟨k, nm, v, l⟩) _ = _
  rw [aDN, B54x3, sub]
  have hl := tU acc ⟨k, nm, v, l⟩
  by_cases e : k = 3
  ·simp only [e, G.T.kind, decide_true, aM, if_true]
   subst e
   exact aEq (B := B) (M := M) (t := ⟨3, nm, v, l⟩) (by show l.length < _; omega) l (qE acc ⟨3, nm, v, l⟩) 0 L rfl (by omega) (tW h1 h2') (fun y hy => by have := aG hy; omega) (by omega)
    fun x hx acc2 q1 q2 => ih x hx acc2 L n q1 (by have := aG hx; omega) q2 hL (by have := aG hx; omega)
  ·simp only [e, G.T.kind, decide_false, aE, if_false]; rfl
theorem Sub_loop {c : TC0} {L B M : Nat} {a : List G.T} (hb : a.length < 1000000000) : ∀ (l acc : List G.T) (k m : Nat), a.drop k = l → l.length < m → (∀ y ∈ acc, tsz y ≤ B) → (∀ y ∈ l, tsz y ≤ B) → acc.length + aU l ≤ M →
    (∀ x, x ∈ l → ∀ acc : List G.T, (∀ y ∈ acc, tsz y ≤ B) → acc.length + tsz x ≤ M → c 54 (lt2 acc x) = some (tl1 (sub acc x))) → aAW c L m a (k : Int) acc = some (tl1 (fQ acc l)) := by
 intro l
 induction l with
 | nil =>
  intro acc k m h1 h3 _ _ _ _
  obtain ⟨m, rfl⟩ : ∃ m', m = m' + 1 := ⟨m - 1, by simp at h3; omega⟩
  have e1 := aK h1
  have e3 : decide ((k : Int) < (a.length : Int)) = false := by simp; omega
  rw [aAW, B20x1, e3, aE]; rfl
 | cons x l ih =>
  intro acc k m h1 h3 h4 h5 h6 hc
  obtain ⟨m, rfl⟩ : ∃ m', m = m' + 1 := ⟨m - 1, by simp at h3; omega⟩
  obtain ⟨a1, a2, a3⟩ := aL h1
  simp only [aU] at h6
  have e3 : decide ((k : Int) < (a.length : Int)) = true := by simp; omega
  have hx := h5 x (mhE ..)
  have hxy : c 54 [yS 3 acc, yR 3 x] = some [yS 3 (sub acc x)] := hc x (mhE ..) acc h4 (by omega)
  rw [aAW, B20x1, e3, aM, aJ, a1, cO, hxy, sY, bO (by omega)]
  exact ih (sub acc x) (k + 1) m a3 (by simp at h3; omega) (yV x acc h4 hx) (fun y hy => h5 y (mtE _ hy)) (by have := yU x acc; omega) fun z hz => hc z (mtE _ hz)
theorem Sub_ok {a : List G.T} {L n : Nat} (hw : aU a < 6000000) (hL : 2 * aU a + 2 ≤ L) (hn : 2 * aU a < n) : CTp L n 20 (tl1 a) = some (tl1 (fQ [] a)) := by
 have hlen := cG a
 obtain ⟨n, rfl⟩ : ∃ n', n = n' + 1 := ⟨n - 1, by omega⟩
 show CTp L (n + 1) 20 [yS 3 _] = _
 rw [c20, F20, B20x0]
 exact Sub_loop (B := aU a) (M := aU a) (by omega) a [] 0 L rfl (by omega) (fun y hy => by cases hy) (fun y hy => aG hy) (by simp) fun x hx acc q1 q2 =>
  sub_ok (by omega) hw x acc L n q1 (aG hx) q2 (by omega) (by have := aG hx; omega)
end Go.TV
