import Derived.Test.YtgeanbfoeopjfaaGreatDoorKq
import Derived.Test.YtgeanbfoeopjfaaGreatDoorKt
import Derived.Test.YtgeanbfoeopjfaaGreatDoorKs
set_option linter.unusedVariables false
set_option linter.unusedSimpArgs false
set_option linter.constructorNameAsVariable false
namespace Go.TV
open Go.AI Go.PI Go.Proofs
set_option maxRecDepth 20000
noncomputable section
variable (c : TC0) (e : Cu) (L : Nat)
def B72x0 (c : TC0) (a0 : List G.E) (a1 : G.Y) : Rt :=
 obL [i6, i6, .bool] (c 87 [yS 15 a0, yR 1 a1]) fun (r0 : Int × Int × Bool × Unit) =>
 cnd (!r0.2.2.1) (some [yR 4 (G.F.mk (G.Y.mk ([] : List UInt8) ([] : List UInt8)) ([] : List G.Y) (0 : Int) (G.T.mk (0 : Int) (G.Y.mk ([] : List UInt8) ([] : List UInt8)) (G.O.mk (0 : Int) ([] : List UInt8) ([] : List UInt8) (G.Y.mk ([] : List UInt8) ([] : List UInt8)) ([] : List UInt8) ([] : List G.O)) ([] : List G.T)) (G.T.mk (0 : Int) (G.Y.mk ([] : List UInt8) ([] : List UInt8)) (G.O.mk (0 : Int) ([] : List UInt8) ([] : List UInt8) (G.Y.mk ([] : List UInt8) ([] : List UInt8)) ([] : List UInt8) ([] : List G.O)) ([] : List G.T)) (G.T.mk (0 : Int) (G.Y.mk ([] : List UInt8) ([] : List UInt8)) (G.O.mk (0 : Int) ([] : List UInt8) ([] : List UInt8) (G.Y.mk ([] : List UInt8) ([] : List UInt8)) ([] : List UInt8) ([] : List G.O)) ([] : List G.T))), yB false]) (ob (idx a0 r0.1) fun v1 =>
 obL [zS 4] (c 88 [yR 15 v1]) fun (r2 : List G.F × Unit) =>
 ob (idx r2.1 r0.2.1) fun v3 =>
 some [yR 4 v3, yB true])
def V72x0 (n : Nt) : List G.E → G.Y → Rt := fun x0 x1 => n [yS 15 x0, yR 1 x1]
theorem s72x0 : V72x0 (xF ii72 c e) = B72x0 c := by kernel_rfl
def F72 (c : TC0) (L : Nat) : List G.E → G.Y → Rt := B72x0 c
theorem e72 : V72x0 (xF ii72 c (cu c L)) = F72 c L := s72x0 _ _
theorem c72 (a0 : List G.E) (a1 : G.Y) (L n : Nat) : CTp L (n + 1) 72 [yS 15 a0, yR 1 a1] = F72 (CTp L n) L a0 a1 := by rw [← e72]; exact cg (x := ii72) (by kernel_rfl) (by kernel_rfl) L n _
def q73x0 (c : TC0) (e : Cu) : Kt := xK aDQ
def q73x1 (c : TC0) (e : Cu) : Kt := xT aDQ c e [1, 1, 1] (q73x0 c e)
def q73x2 (c : TC0) (e : Cu) : Kt := dD U0 0 (q73x1 c e)
def B73x0 (c : TC0) (e1 : Int → List G.T → Int → G.T → Rt) (k2 : G.T → Rt) (a0 : G.T) (b0 : G.T) : Rt :=
 obL [.bool, .rc 3] (c 89 [yR 3 a0, yR 3 b0]) fun (r0 : Bool × G.T × Unit) =>
 cnd (!r0.1) (some [yB false, yR 3 r0.2.1]) (cnd (decide (a0.kind = (3 : Int))) (e1 (List.length a0.args : Int) a0.args (0 : Int) r0.2.1) (k2 r0.2.1))
def V73x0 (n : Nt) : G.T → G.T → Rt := fun x0 x1 => n [yR 3 x0, yR 3 x1]
def B73x1 (c : TC0) (n1 : Int → List G.T → Int → G.T → Rt) (k2 : G.T → Rt) (a16 : Int) (a15 : List G.T) (a17 : Int) (b0 : G.T) : Rt :=
 cnd (decide (a17 < a16)) (ob (idx a15 a17) fun v0 =>
 obL [.bool, .rc 3] (c 73 [yR 3 v0, yR 3 b0]) fun (r1 : Bool × G.T × Unit) =>
 cnd (!r1.1) (some [yB false, yR 3 r1.2.1]) (n1 a16 a15 (IntKind.i64.wrap (a17 + (1 : Int))) r1.2.1)) (k2 b0)
def V73x1 (n : Nt) : Int → List G.T → Int → G.T → Rt := fun x0 x1 x2 x3 => n [yI x0, yS 3 x1, yI x2, yR 3 x3]
def X73x1 := V73x1 (xE aDQ e [1, 1, 0, 1, 0, 1, 0, 0] uS (q73x2 c e))
def B73x2 (c : TC0) (b0 : G.T) : Rt :=
 some [yB true, yR 3 b0]
def V73x2 (n : Nt) : G.T → Rt := fun x0 => n [yR 3 x0]
def X73x2 := V73x2 (xD aDQ e [1, 1, 1, 0] aEq (q73x0 c e))
theorem s73x0 : V73x0 (xF aDQ c e) = B73x0 c (X73x1 c e) (X73x2 c e) := by kernel_rfl
theorem s73x1 (n1 : Nt) : V73x1 (xA aDQ c e [1, 1, 0, 1, 0, 1, 0, 0] uS (lpK U0 uS n1 (q73x2 c e))) = B73x1 c (V73x1 n1) (X73x2 c e) := by kernel_rfl
theorem s73x2 : V73x2 (xA aDQ c e [1, 1, 1, 0] aEq (q73x0 c e)) = B73x2 c := by kernel_rfl
def J73x2 (c : TC0) (L : Nat) : G.T → Rt := B73x2 c
theorem j73x2 : X73x2 c (cu c L) = J73x2 c L := by rw [X73x2, aY, s73x2]; rfl
def zC (c : TC0) (L : Nat) : Nat → Int → List G.T → Int → G.T → Rt
 | 0 => fun _ _ _ _ => none
 | n + 1 => B73x1 c (zC c L n) (J73x2 c L)
theorem u73x1 (n : Nat) : V73x1 (xL aDQ c L [1, 1, 0, 1, 0, 1, 0, 0] uS (q73x2 c (cu c L)) n) = zC c L n := by
 induction n with
 | zero => rfl
 | succ n ih => rw [gW, s73x1]; simp only [j73x2, ih]; rfl
theorem w73x1 : X73x1 c (cu c L) = zC c L L := u73x1 c L L
def F73 (c : TC0) (L : Nat) : G.T → G.T → Rt := B73x0 c (zC c L L) (J73x2 c L)
theorem e73 : V73x0 (xF aDQ c (cu c L)) = F73 c L := by rw [s73x0]; simp only [w73x1, j73x2]; rfl
theorem c73 (a0 : G.T) (b0 : G.T) (L n : Nat) : CTp L (n + 1) 73 [yR 3 a0, yR 3 b0] = F73 (CTp L n) L a0 b0 := by rw [← e73]; exact cg (x := aDQ) (by kernel_rfl) (by kernel_rfl) L n _
def B74x0 (c : TC0) (a0 : G.T) : Rt :=
 cnd (!decide (a0.kind = (3 : Int))) (some [yS 3 ([] : List G.T)]) (some [yS 3 a0.args])
def V74x0 (n : Nt) : G.T → Rt := fun x0 => n [yR 3 x0]
theorem s74x0 : V74x0 (xF ii74 c e) = B74x0 c := by kernel_rfl
def F74 (c : TC0) (L : Nat) : G.T → Rt := B74x0 c
theorem e74 : V74x0 (xF ii74 c (cu c L)) = F74 c L := s74x0 _ _
theorem c74 (a0 : G.T) (L n : Nat) : CTp L (n + 1) 74 [yR 3 a0] = F74 (CTp L n) L a0 := by rw [← e74]; exact cg (x := ii74) (by kernel_rfl) (by kernel_rfl) L n _
def q75x0 (c : TC0) (e : Cu) : Kt := xK ii75
def q75x1 (c : TC0) (e : Cu) : Kt := dD U0 0 (q75x0 c e)
def B75x0 (c : TC0) (e1 : Int → List UInt8 → List G.K → G.X → Rt) (a0 : List UInt8) : Rt :=
 cnd (decide ((6000 : Int) < (List.length a0 : Int))) (obL [.rc 17] (c 76 [yI (2 : Int), yI (0 : Int)]) fun (r0 : G.X × Unit) =>
 some [yS 18 ([] : List G.K), yR 17 r0.1]) (e1 (0 : Int) a0 ([] : List G.K) (G.X.mk (0 : Int) (0 : Int)))
def V75x0 (n : Nt) : List UInt8 → Rt := fun x0 => n [yT x0]
def B75x1 (c : TC0) (n1 : Int → List UInt8 → List G.K → G.X → Rt) (a5 : Int) (a0 : List UInt8) (a4 : List G.K) (b103 : G.X) : Rt :=
 obL [i6, .bool] (c 90 [yT a0, yI a5]) fun (r0 : Int × Bool × Unit) =>
 cnd (!r0.2.1) (obL [.rc 17] (c 76 [yI (11 : Int), yI (List.length a0 : Int)]) fun (r1 : G.X × Unit) =>
 some [yS 18 ([] : List G.K), yR 17 r1.1]) (cnd (decide ((List.length a0 : Int) ≤ r0.1)) (chk (Nat.ble ((List.length a4 + List.length ([(G.K.mk (0 : Int) (List.length a0 : Int) ([] : List UInt8) ([] : List UInt8) ([] : List UInt8))] : List G.K)) * 64) 1073741824) <|
 some [yS 18 (a4 ++ ([(G.K.mk (0 : Int) (List.length a0 : Int) ([] : List UInt8) ([] : List UInt8) ([] : List UInt8))] : List G.K)), yR 17 (G.X.mk (0 : Int) (0 : Int))]) (obL [.rc 18, i6, .rc 17] (c 91 [yT a0, yI r0.1]) fun (r2 : G.K × Int × G.X × Unit) =>
 cnd (!decide (r2.2.2.1.err = (0 : Int))) (some [yS 18 ([] : List G.K), yR 17 r2.2.2.1]) (chk (Nat.ble ((List.length a4 + List.length ([r2.1] : List G.K)) * 64) 1073741824) <|
 n1 r2.2.1 a0 (a4 ++ ([r2.1] : List G.K)) b103)))
def V75x1 (n : Nt) : Int → List UInt8 → List G.K → G.X → Rt := fun x0 x1 x2 x3 => n [yI x0, yT x1, yS 18 x2, yR 17 x3]
def X75x1 := V75x1 (xE ii75 e [1, 1, 1, 1, 0, 0] uR (q75x1 c e))
theorem s75x0 : V75x0 (xF ii75 c e) = B75x0 c (X75x1 c e) := by kernel_rfl
theorem s75x1 (n1 : Nt) : V75x1 (xA ii75 c e [1, 1, 1, 1, 0, 0] uR (lpK U0 uR n1 (q75x1 c e))) = B75x1 c (V75x1 n1) := by kernel_rfl
def zB (c : TC0) (L : Nat) : Nat → Int → List UInt8 → List G.K → G.X → Rt
 | 0 => fun _ _ _ _ => none
 | n + 1 => B75x1 c (zB c L n)
theorem u75x1 (n : Nat) : V75x1 (xL ii75 c L [1, 1, 1, 1, 0, 0] uR (q75x1 c (cu c L)) n) = zB c L n := by
 induction n with
 | zero => rfl
 | succ n ih => rw [gW, s75x1]; simp only [ih]; rfl
theorem w75x1 : X75x1 c (cu c L) = zB c L L := u75x1 c L L
def F75 (c : TC0) (L : Nat) : List UInt8 → Rt := B75x0 c (zB c L L)
theorem e75 : V75x0 (xF ii75 c (cu c L)) = F75 c L := by rw [s75x0]; simp only [w75x1]; rfl
theorem c75 (a0 : List UInt8) (L n : Nat) : CTp L (n + 1) 75 [yT a0] = F75 (CTp L n) L a0 := by rw [← e75]; exact cg (x := ii75) (by kernel_rfl) (by kernel_rfl) L n _
def q77x0 (c : TC0) (e : Cu) : Kt := xK ii77
def q77x1 (c : TC0) (e : Cu) : Kt := xT ii77 c e [1, 1, 1, 1] (q77x0 c e)
def q77x2 (c : TC0) (e : Cu) : Kt := dD U0 0 (q77x1 c e)
def B77x0 (c : TC0) (k1 : Bool → Int → Int → G.P → G.K → G.O → G.O → G.X → Rt) (a1 : Int) (b0 : G.P) : Rt :=
 ob (idx b0.t b0.pos) fun v0 =>
 cnd (decide (v0.kind = (0 : Int))) (obL [.rc 17] (c 76 [yI (11 : Int), yI v0.pos]) fun (r1 : G.X × Unit) =>
 some [yR 2 (G.O.mk (0 : Int) ([] : List UInt8) ([] : List UInt8) (G.Y.mk ([] : List UInt8) ([] : List UInt8)) ([] : List UInt8) ([] : List G.O)), yR 17 r1.1, yR 19 b0]) (cnd (decide (v0.kind = (2 : Int))) (k1 (decide (v0.kind = (2 : Int))) v0.kind a1 b0 v0 (G.O.mk (0 : Int) ([] : List UInt8) ([] : List UInt8) (G.Y.mk ([] : List UInt8) ([] : List UInt8)) ([] : List UInt8) ([] : List G.O)) (G.O.mk (0 : Int) ([] : List UInt8) ([] : List UInt8) (G.Y.mk ([] : List UInt8) ([] : List UInt8)) ([] : List UInt8) ([] : List G.O)) (G.X.mk (0 : Int) (0 : Int))) (k1 (decide (v0.kind = (3 : Int))) v0.kind a1 b0 v0 (G.O.mk (0 : Int) ([] : List UInt8) ([] : List UInt8) (G.Y.mk ([] : List UInt8) ([] : List UInt8)) ([] : List UInt8) ([] : List G.O)) (G.O.mk (0 : Int) ([] : List UInt8) ([] : List UInt8) (G.Y.mk ([] : List UInt8) ([] : List UInt8)) ([] : List UInt8) ([] : List G.O)) (G.X.mk (0 : Int) (0 : Int))))
def V77x0 (n : Nt) : Int → G.P → Rt := fun x0 x1 => n [yI x0, yR 19 x1]
def B77x1 (c : TC0) (k2 : List UInt8 → G.P → G.O → G.K → G.O → G.X → Rt) (a31 : Bool) (a24 : Int) (a1 : Int) (b0 : G.P) (b106 : G.K) (b107 : G.O) (b104 : G.O) (b105 : G.X) : Rt :=
 cnd a31 (obL [.rc 17] (c 76 [yI (12 : Int), yI b106.pos]) fun (r0 : G.X × Unit) =>
 some [yR 2 b107, yR 17 r0.1, yR 19 b0]) (cnd (decide (a24 = (5 : Int))) (some [yR 2 (G.O.mk (1 : Int) b106.text b106.den (G.Y.mk ([] : List UInt8) ([] : List UInt8)) ([] : List UInt8) ([] : List G.O)), yR 17 (G.X.mk (0 : Int) (0 : Int)), yR 19 (G.P.mk b0.l b0.current b0.t (IntKind.i64.wrap (b0.pos + (1 : Int))))]) (cnd (decide (a24 = (7 : Int))) (obL [.rc 2] (c 68 [yT b106.text]) fun (r1 : G.O × Unit) =>
 some [yR 2 r1.1, yR 17 (G.X.mk (0 : Int) (0 : Int)), yR 19 (G.P.mk b0.l b0.current b0.t (IntKind.i64.wrap (b0.pos + (1 : Int))))]) (cnd (decide (a24 = (6 : Int))) (cnd (decide (b106.package = ([] : List UInt8))) (k2 b0.current (G.P.mk b0.l b0.current b0.t (IntKind.i64.wrap (b0.pos + (1 : Int)))) b107 b106 b104 b105) (k2 b106.package (G.P.mk b0.l b0.current b0.t (IntKind.i64.wrap (b0.pos + (1 : Int)))) b107 b106 b104 b105)) (cnd (decide ((200 : Int) < a1)) (obL [.rc 17] (c 76 [yI (2 : Int), yI b106.pos]) fun (r2 : G.X × Unit) =>
 some [yR 2 b107, yR 17 r2.1, yR 19 b0]) (cnd (decide (b106.kind = (4 : Int))) (obL [.rc 2, .rc 17, .rc 19] (c 77 [yI (IntKind.i64.wrap (a1 + (1 : Int))), yR 19 (G.P.mk b0.l b0.current b0.t (IntKind.i64.wrap (b0.pos + (1 : Int))))]) fun (r3 : G.O × G.X × G.P × Unit) =>
 cnd (!decide (r3.2.1.err = (0 : Int))) (some [yR 2 b107, yR 17 r3.2.1, yR 19 r3.2.2.1]) (obL [.rc 1] (c 27 [yT ([113, 117, 111, 116, 101] : List UInt8)]) fun (r4 : G.Y × Unit) =>
 obL [.rc 2] (c 67 [yR 1 r4.1]) fun (r5 : G.O × Unit) =>
 obL [.rc 2] (c 70 [yS 2 ([r5.1, r3.1] : List G.O)]) fun (r6 : G.O × Unit) =>
 some [yR 2 r6.1, yR 17 r3.2.1, yR 19 r3.2.2.1])) (obL [.rc 2, .rc 17, .rc 19] (c 92 [yI (IntKind.i64.wrap (a1 + (1 : Int))), yR 19 (G.P.mk b0.l b0.current b0.t (IntKind.i64.wrap (b0.pos + (1 : Int))))]) fun (r7 : G.O × G.X × G.P × Unit) =>
 some [yR 2 r7.1, yR 17 r7.2.1, yR 19 r7.2.2.1]))))))
def V77x1 (n : Nt) : Bool → Int → Int → G.P → G.K → G.O → G.O → G.X → Rt := fun x0 x1 x2 x3 x4 x5 x6 x7 => n [yB x0, yI x1, yI x2, yR 19 x3, yR 18 x4, yR 2 x5, yR 2 x6, yR 17 x7]
def X77x1 := V77x1 (xD ii77 e [1, 1, 1, 0, 1, 0, 1, 1, 1, 0] aEp (q77x2 c e))
def B77x2 (c : TC0) (a8 : List UInt8) (b0 : G.P) (b107 : G.O) (b106 : G.K) (b104 : G.O) (b105 : G.X) : Rt :=
 obL [.rc 1, i6] (c 93 [yS 5 b0.l, yT a8, yT b106.text]) fun (r0 : G.Y × Int × Unit) =>
 cnd (!decide (r0.2.1 = (0 : Int))) (obL [.rc 17] (c 76 [yI r0.2.1, yI b106.pos]) fun (r1 : G.X × Unit) =>
 some [yR 2 b107, yR 17 r1.1, yR 19 b0]) (obL [.rc 2] (c 67 [yR 1 r0.1]) fun (r2 : G.O × Unit) =>
 some [yR 2 r2.1, yR 17 (G.X.mk (0 : Int) (0 : Int)), yR 19 b0])
def V77x2 (n : Nt) : List UInt8 → G.P → G.O → G.K → G.O → G.X → Rt := fun x0 x1 x2 x3 x4 x5 => n [yT x0, yR 19 x1, yR 2 x2, yR 18 x3, yR 2 x4, yR 17 x5]
def X77x2 := V77x2 (xD ii77 e [1, 1, 1, 0, 1, 0, 1, 1, 1, 0, 1, 1, 1, 1, 1, 1, 0, 1, 1, 1, 0] aEo (q77x2 c e))
theorem s77x0 : V77x0 (xF ii77 c e) = B77x0 c (X77x1 c e) := by kernel_rfl
theorem s77x1 : V77x1 (xA ii77 c e [1, 1, 1, 0, 1, 0, 1, 1, 1, 0] aEp (q77x2 c e)) = B77x1 c (X77x2 c e) := by kernel_rfl
theorem s77x2 : V77x2 (xA ii77 c e [1, 1, 1, 0, 1, 0, 1, 1, 1, 0, 1, 1, 1, 1, 1, 1, 0, 1, 1, 1, 0] aEo (q77x2 c e)) = B77x2 c := by kernel_rfl
def J77x2 (c : TC0) (L : Nat) : List UInt8 → G.P → G.O → G.K → G.O → G.X → Rt := B77x2 c
theorem j77x2 : X77x2 c (cu c L) = J77x2 c L := by rw [X77x2, aY, s77x2]; rfl
def J77x1 (c : TC0) (L : Nat) : Bool → Int → Int → G.P → G.K → G.O → G.O → G.X → Rt := B77x1 c (J77x2 c L)
theorem j77x1 : X77x1 c (cu c L) = J77x1 c L := by rw [X77x1, aY, s77x1]; simp only [j77x2]; rfl
def F77 (c : TC0) (L : Nat) : Int → G.P → Rt := B77x0 c (J77x1 c L)
theorem e77 : V77x0 (xF ii77 c (cu c L)) = F77 c L := by rw [s77x0]; simp only [j77x1]; rfl
theorem c77 (a1 : Int) (b0 : G.P) (L n : Nat) : CTp L (n + 1) 77 [yI a1, yR 19 b0] = F77 (CTp L n) L a1 b0 := by rw [← e77]; exact cg (x := ii77) (by kernel_rfl) (by kernel_rfl) L n _
def B83x0 (c : TC0) : Rt :=
 some [yS 21 ([(G.R.mk ([105, 102] : List UInt8) (3 : Int)), (G.R.mk ([101, 113, 117, 97, 108] : List UInt8) (2 : Int)), (G.R.mk ([99, 111, 110, 115] : List UInt8) (2 : Int)), (G.R.mk ([99, 97, 114] : List UInt8) (1 : Int)), (G.R.mk ([99, 100, 114] : List UInt8) (1 : Int)), (G.R.mk ([99, 111, 110, 115, 112] : List UInt8) (1 : Int)), (G.R.mk ([115, 121, 109, 98, 111, 108, 112] : List UInt8) (1 : Int)), (G.R.mk ([115, 116, 114, 105, 110, 103, 112] : List UInt8) (1 : Int)), (G.R.mk ([114, 97, 116, 105, 111, 110, 97, 108, 112] : List UInt8) (1 : Int)), (G.R.mk ([105, 110, 116, 101, 103, 101, 114, 112] : List UInt8) (1 : Int)), (G.R.mk ([98, 105, 110, 97, 114, 121, 45, 43] : List UInt8) (2 : Int)), (G.R.mk ([98, 105, 110, 97, 114, 121, 45, 42] : List UInt8) (2 : Int)), (G.R.mk ([117, 110, 97, 114, 121, 45, 45] : List UInt8) (1 : Int)), (G.R.mk ([117, 110, 97, 114, 121, 45, 47] : List UInt8) (1 : Int)), (G.R.mk ([60] : List UInt8) (2 : Int)), (G.R.mk ([110, 117, 109, 101, 114, 97, 116, 111, 114] : List UInt8) (1 : Int)), (G.R.mk ([100, 101, 110, 111, 109, 105, 110, 97, 116, 111, 114] : List UInt8) (1 : Int)), (G.R.mk ([102, 108, 111, 111, 114] : List UInt8) (1 : Int)), (G.R.mk ([115, 121, 109, 98, 111, 108, 45, 110, 97, 109, 101] : List UInt8) (1 : Int)), (G.R.mk ([115, 121, 109, 98, 111, 108, 45, 112, 97, 99, 107, 97, 103, 101, 45, 110, 97, 109, 101] : List UInt8) (1 : Int)), (G.R.mk ([105, 110, 116, 101, 114, 110] : List UInt8) (2 : Int)), (G.R.mk ([115, 116, 114, 105, 110, 103, 45, 97, 112, 112, 101, 110, 100] : List UInt8) (2 : Int)), (G.R.mk ([115, 116, 114, 105, 110, 103, 45, 108, 101, 110, 103, 116, 104] : List UInt8) (1 : Int)), (G.R.mk ([115, 116, 114, 105, 110, 103, 45, 98, 121, 116, 101] : List UInt8) (2 : Int)), (G.R.mk ([98, 121, 116, 101, 45, 115, 116, 114, 105, 110, 103] : List UInt8) (1 : Int))] : List G.R)]
def V83x0 (n : Nt) : Rt := n []
theorem s83x0 : V83x0 (xF ii83 c e) = B83x0 c := by kernel_rfl
def F83 (c : TC0) (L : Nat) : Rt := B83x0 c
theorem e83 : V83x0 (xF ii83 c (cu c L)) = F83 c L := s83x0 _ _
theorem c83 (L n : Nat) : CTp L (n + 1) 83 [] = F83 (CTp L n) L := by rw [← e83]; exact cg (x := ii83) (by kernel_rfl) (by kernel_rfl) L n _
def q87x0 (c : TC0) (e : Cu) : Kt := xK aBX
def q87x1 (c : TC0) (e : Cu) : Kt := xT aBX c e [1, 1] (q87x0 c e)
def q87x2 (c : TC0) (e : Cu) : Kt := dD U0 0 (q87x1 c e)
def q87x3 (c : TC0) (e : Cu) (n1 : Nt) : Kt := lpK U0 qG n1 (q87x2 c e)
def q87x4 (c : TC0) (e : Cu) (n1 : Nt) : Kt := xT aBX c e [1, 0, 1, 0, 0, 1, 1] (q87x3 c e n1)
def q87x5 (c : TC0) (e : Cu) (n1 : Nt) : Kt := dD U0 1 (q87x4 c e n1)
def q87x6 (c : TC0) (e : Cu) (n1 : Nt) : Kt := dD U0 2 (q87x5 c e n1)
def B87x0 (c : TC0) (e1 : List G.E → Int → G.Y → Rt) (a0 : List G.E) (a1 : G.Y) : Rt :=
 e1 a0 (0 : Int) a1
def V87x0 (n : Nt) : List G.E → G.Y → Rt := fun x0 x1 => n [yS 15 x0, yR 1 x1]
def B87x1 (c : TC0) (e2 : List G.F → Int → Int → List G.E → G.Y → Rt) (a0 : List G.E) (a7 : Int) (b103 : G.Y) : Rt :=
 cnd (decide (a7 < (List.length a0 : Int))) (ob (idx a0 a7) fun v0 =>
 obL [zS 4] (c 88 [yR 15 v0]) fun (r1 : List G.F × Unit) =>
 e2 r1.1 (0 : Int) a7 a0 b103) (some [yI (0 : Int), yI (0 : Int), yB false])
def aCf (n : Nt) : List G.E → Int → G.Y → Rt := fun x0 x1 x2 => n [yS 15 x0, yI x1, yR 1 x2]
def X87x1 := aCf (xE aBX e [1, 0, 1, 0, 0] qG (q87x2 c e))
def B87x2 (c : TC0) (n2 : List G.F → Int → Int → List G.E → G.Y → Rt) (n1 : List G.E → Int → G.Y → Rt) (a8 : List G.F) (a9 : Int) (a7 : Int) (a0 : List G.E) (b103 : G.Y) : Rt :=
 cnd (decide (a9 < (List.length a8 : Int))) (ob (idx a8 a9) fun v0 =>
 cnd (decide (v0.name = b103)) (some [yI a7, yI a9, yB true]) (n2 a8 (IntKind.i64.wrap (a9 + (1 : Int))) a7 a0 b103)) (n1 a0 (IntKind.i64.wrap (a7 + (1 : Int))) b103)
def V87x2 (n : Nt) : List G.F → Int → Int → List G.E → G.Y → Rt := fun x0 x1 x2 x3 x4 => n [yS 4 x0, yI x1, yI x2, yS 15 x3, yR 1 x4]
def X87x2 (n1 : Nt) := V87x2 (xE aBX e [1, 0, 1, 0, 0, 1, 0, 0, 1, 1, 0, 0] uQ (q87x6 c e n1))
theorem s87x0 : V87x0 (xF aBX c e) = B87x0 c (X87x1 c e) := by kernel_rfl
theorem s87x1 (n1 : Nt) : aCf (xA aBX c e [1, 0, 1, 0, 0] qG (lpK U0 qG n1 (q87x2 c e))) = B87x1 c (X87x2 c e n1) := by kernel_rfl
theorem s87x2 (n2 : Nt) (n1 : Nt) : V87x2 (xA aBX c e [1, 0, 1, 0, 0, 1, 0, 0, 1, 1, 0, 0] uQ (lpK U0 uQ n2 (q87x6 c e n1))) = B87x2 c (V87x2 n2) (aCf n1) := by kernel_rfl
def yZ (c : TC0) (L : Nat) (n1 : List G.E → Int → G.Y → Rt) : Nat → List G.F → Int → Int → List G.E → G.Y → Rt
 | 0 => fun _ _ _ _ _ => none
 | n + 1 => B87x2 c (yZ c L n1 n) n1
theorem u87x2 (n1 : Nt) (n : Nat) : V87x2 (xL aBX c L [1, 0, 1, 0, 0, 1, 0, 0, 1, 1, 0, 0] uQ (q87x6 c (cu c L) n1) n) = yZ c L (aCf n1) n := by
 induction n with
 | zero => rfl
 | succ n ih => rw [gW, s87x2]; simp only [ih]; rfl
theorem w87x2 (n1 : Nt) : X87x2 c (cu c L) n1 = yZ c L (aCf n1) L := u87x2 c L n1 L
def zA (c : TC0) (L : Nat) : Nat → List G.E → Int → G.Y → Rt
 | 0 => fun _ _ _ => none
 | n + 1 => B87x1 c (yZ c L (zA c L n) L)
theorem u87x1 (n : Nat) : aCf (xL aBX c L [1, 0, 1, 0, 0] qG (q87x2 c (cu c L)) n) = zA c L n := by
 induction n with
 | zero => rfl
 | succ n ih => rw [gW, s87x1]; simp only [w87x2, ih]; rfl
theorem w87x1 : X87x1 c (cu c L) = zA c L L := u87x1 c L L
def F87 (c : TC0) (L : Nat) : List G.E → G.Y → Rt := B87x0 c (zA c L L)
theorem e87 : V87x0 (xF aBX c (cu c L)) = F87 c L := by rw [s87x0]; simp only [w87x1]; rfl
theorem c87 (a0 : List G.E) (a1 : G.Y) (L n : Nat) : CTp L (n + 1) 87 [yS 15 a0, yR 1 a1] = F87 (CTp L n) L a0 a1 := by rw [← e87]; exact cg (x := aBX) (by kernel_rfl) (by kernel_rfl) L n _
def q88x0 (c : TC0) (e : Cu) : Kt := xK ii88
def q88x1 (c : TC0) (e : Cu) : Kt := xT ii88 c e [1, 1] (q88x0 c e)
def q88x2 (c : TC0) (e : Cu) : Kt := dD U0 0 (q88x1 c e)
def B88x0 (c : TC0) (k1 : Bool → G.E → Rt) (a0 : G.E) : Rt :=
 cnd (decide (a0.kind = (3 : Int))) (k1 (decide (a0.kind = (3 : Int))) a0) (cnd (decide (a0.kind = (5 : Int))) (k1 (decide (a0.kind = (5 : Int))) a0) (cnd (decide (a0.kind = (6 : Int))) (k1 (decide (a0.kind = (6 : Int))) a0) (k1 (decide (a0.kind = (7 : Int))) a0)))
def V88x0 (n : Nt) : G.E → Rt := fun x0 => n [yR 15 x0]
def B88x1 (c : TC0) (a5 : Bool) (b101 : G.E) : Rt :=
 cnd a5 (some [yS 4 b101.functions]) (some [yS 4 ([] : List G.F)])
def V88x1 (n : Nt) : Bool → G.E → Rt := fun x0 x1 => n [yB x0, yR 15 x1]
def X88x1 := V88x1 (xD ii88 e [1, 0, 1, 0, 1, 0] aEn (q88x2 c e))
theorem s88x0 : V88x0 (xF ii88 c e) = B88x0 c (X88x1 c e) := by kernel_rfl
theorem s88x1 : V88x1 (xA ii88 c e [1, 0, 1, 0, 1, 0] aEn (q88x2 c e)) = B88x1 c := by kernel_rfl
def J88x1 (c : TC0) (L : Nat) : Bool → G.E → Rt := B88x1 c
theorem j88x1 : X88x1 c (cu c L) = J88x1 c L := by rw [X88x1, aY, s88x1]; rfl
def F88 (c : TC0) (L : Nat) : G.E → Rt := B88x0 c (J88x1 c L)
theorem e88 : V88x0 (xF ii88 c (cu c L)) = F88 c L := by rw [s88x0]; simp only [j88x1]; rfl
theorem c88 (a0 : G.E) (L n : Nat) : CTp L (n + 1) 88 [yR 15 a0] = F88 (CTp L n) L a0 := by rw [← e88]; exact cg (x := ii88) (by kernel_rfl) (by kernel_rfl) L n _
def B89x0 (c : TC0) (a0 : G.T) (b0 : G.T) : Rt :=
 obL [.bool] (c 18 [yR 3 a0, yR 3 b0]) fun (r0 : Bool × Unit) =>
 some [yB (!r0.1), yR 3 b0]
def V89x0 (n : Nt) : G.T → G.T → Rt := fun x0 x1 => n [yR 3 x0, yR 3 x1]
theorem s89x0 : V89x0 (xF ii89 c e) = B89x0 c := by kernel_rfl
def F89 (c : TC0) (L : Nat) : G.T → G.T → Rt := B89x0 c
theorem e89 : V89x0 (xF ii89 c (cu c L)) = F89 c L := s89x0 _ _
theorem c89 (a0 : G.T) (b0 : G.T) (L n : Nat) : CTp L (n + 1) 89 [yR 3 a0, yR 3 b0] = F89 (CTp L n) L a0 b0 := by rw [← e89]; exact cg (x := ii89) (by kernel_rfl) (by kernel_rfl) L n _
def q90x0 (c : TC0) (e : Cu) : Kt := xK sW
def q90x1 (c : TC0) (e : Cu) : Kt := xT sW c e [1, 1] (q90x0 c e)
def q90x2 (c : TC0) (e : Cu) : Kt := dD U0 0 (q90x1 c e)
def q90x3 (c : TC0) (e : Cu) (n1 : Nt) : Kt := lpK U0 qF n1 (q90x2 c e)
def q90x4 (c : TC0) (e : Cu) (n1 : Nt) : Kt := dD U0 1 (q90x3 c e n1)
def q90x5 (c : TC0) (e : Cu) (n1 : Nt) : Kt := dD U0 2 (q90x4 c e n1)
def q90x6 (c : TC0) (e : Cu) (n1 : Nt) : Kt := dD U0 3 (q90x5 c e n1)
def q90x7 (c : TC0) (e : Cu) (n1 : Nt) : Kt := dD U0 5 (q90x5 c e n1)
def q90x8 (c : TC0) (e : Cu) (n2 : Nt) (n1 : Nt) : Kt := lpK U0 qE n2 (q90x6 c e n1)
def q90x9 (c : TC0) (e : Cu) (n2 : Nt) (n1 : Nt) : Kt := xT sW c e [1, 0, 0, 0, 1, 0, 0, 1, 1, 1, 0, 0, 0, 1] (q90x8 c e n2 n1)
def B90x0 (c : TC0) (e1 : List UInt8 → Int → Rt) (a0 : List UInt8) (a1 : Int) : Rt :=
 e1 a0 a1
def V90x0 (n : Nt) : List UInt8 → Int → Rt := fun x0 x1 => n [yT x0, yI x1]
def B90x1 (c : TC0) (n1 : List UInt8 → Int → Rt) (e2 : List UInt8 → Int → Rt) (e3 : Int → List UInt8 → Int → Rt) (a0 : List UInt8) (a1 : Int) : Rt :=
 cnd (decide (a1 < (List.length a0 : Int))) (ob (idx a0 a1) fun v0 =>
 obL [.bool] (c 112 [⟨(.int .u8), (v0.toNat : Int)⟩]) fun (r1 : Bool × Unit) =>
 cnd r1.1 (n1 a0 (IntKind.i64.wrap (a1 + (1 : Int)))) (ob (idx a0 a1) fun v2 =>
 cnd (decide ((v2.toNat : Int) = (59 : Int))) (e2 a0 a1) (obL [.bool] (c 113 [yT a0, yI a1, ⟨(.int .u8), (35 : Int)⟩, ⟨(.int .u8), (124 : Int)⟩]) fun (r3 : Bool × Unit) =>
 cnd r3.1 (e3 (1 : Int) a0 (IntKind.i64.wrap (a1 + (2 : Int)))) (some [yI a1, yB true])))) (some [yI a1, yB true])
def oP (n : Nt) : List UInt8 → Int → Rt := fun x0 x1 => n [yT x0, yI x1]
def X90x1 := oP (xE sW e [1, 0, 0, 0] qF (q90x2 c e))
def B90x2 (c : TC0) (k4 : Bool → List UInt8 → Int → Rt) (a0 : List UInt8) (a1 : Int) : Rt :=
 cnd (decide (a1 < (List.length a0 : Int))) (ob (idx a0 a1) fun v0 =>
 k4 (!decide ((v0.toNat : Int) = (10 : Int))) a0 a1) (k4 false a0 a1)
def aFm (n : Nt) : List UInt8 → Int → Rt := fun x0 x1 => n [yT x0, yI x1]
def X90x2 (n1 : Nt) := aFm (xE sW e [1, 0, 0, 0, 1, 0, 0, 1, 1, 1, 0, 0, 0] qE (q90x6 c e n1))
def B90x3 (c : TC0) (n3 : Int → List UInt8 → Int → Rt) (n1 : List UInt8 → Int → Rt) (a6 : Int) (a0 : List UInt8) (a1 : Int) : Rt :=
 cnd (decide ((0 : Int) < a6)) (cnd (decide ((List.length a0 : Int) ≤ a1)) (some [yI a1, yB false]) (obL [.bool] (c 113 [yT a0, yI a1, ⟨(.int .u8), (35 : Int)⟩, ⟨(.int .u8), (124 : Int)⟩]) fun (r0 : Bool × Unit) =>
 cnd r0.1 (n3 (IntKind.i64.wrap (a6 + (1 : Int))) a0 (IntKind.i64.wrap (a1 + (2 : Int)))) (obL [.bool] (c 113 [yT a0, yI a1, ⟨(.int .u8), (124 : Int)⟩, ⟨(.int .u8), (35 : Int)⟩]) fun (r1 : Bool × Unit) =>
 cnd r1.1 (n3 (IntKind.i64.wrap (a6 - (1 : Int))) a0 (IntKind.i64.wrap (a1 + (2 : Int)))) (n3 a6 a0 (IntKind.i64.wrap (a1 + (1 : Int))))))) (n1 a0 a1)
def V90x3 (n : Nt) : Int → List UInt8 → Int → Rt := fun x0 x1 x2 => n [yI x0, yT x1, yI x2]
def X90x3 (n1 : Nt) := V90x3 (xE sW e [1, 0, 0, 0, 1, 0, 0, 1, 1, 1, 1, 1, 0, 1, 1, 0, 0] uP (q90x7 c e n1))
def B90x4 (c : TC0) (n2 : List UInt8 → Int → Rt) (n1 : List UInt8 → Int → Rt) (a33 : Bool) (a0 : List UInt8) (a1 : Int) : Rt :=
 cnd a33 (n2 a0 (IntKind.i64.wrap (a1 + (1 : Int)))) (n1 a0 a1)
def V90x4 (n : Nt) : Bool → List UInt8 → Int → Rt := fun x0 x1 x2 => n [yB x0, yT x1, yI x2]
def X90x4 (n2 : Nt) (n1 : Nt) := V90x4 (xD sW e [1, 0, 0, 0, 1, 0, 0, 1, 1, 1, 0, 0, 0, 0, 1, 0] aEl (q90x9 c e n2 n1))
theorem s90x0 : V90x0 (xF sW c e) = B90x0 c (X90x1 c e) := by kernel_rfl
theorem s90x1 (n1 : Nt) : oP (xA sW c e [1, 0, 0, 0] qF (lpK U0 qF n1 (q90x2 c e))) = B90x1 c (oP n1) (X90x2 c e n1) (X90x3 c e n1) := by kernel_rfl
theorem s90x2 (n2 : Nt) (n1 : Nt) : aFm (xA sW c e [1, 0, 0, 0, 1, 0, 0, 1, 1, 1, 0, 0, 0] qE (lpK U0 qE n2 (q90x6 c e n1))) = B90x2 c (X90x4 c e n2 n1) := by kernel_rfl
theorem s90x3 (n3 : Nt) (n1 : Nt) : V90x3 (xA sW c e [1, 0, 0, 0, 1, 0, 0, 1, 1, 1, 1, 1, 0, 1, 1, 0, 0] uP (lpK U0 uP n3 (q90x7 c e n1))) = B90x3 c (V90x3 n3) (oP n1) := by kernel_rfl
theorem s90x4 (n2 : Nt) (n1 : Nt) : V90x4 (xA sW c e [1, 0, 0, 0, 1, 0, 0, 1, 1, 1, 0, 0, 0, 0, 1, 0] aEl (q90x9 c e n2 n1)) = B90x4 c (aFm n2) (oP n1) := by kernel_rfl
def W90x3 (c : TC0) (L : Nat) (n1 : List UInt8 → Int → Rt) : Nat → Int → List UInt8 → Int → Rt
 | 0 => fun _ _ _ => none
 | n + 1 => B90x3 c (W90x3 c L n1 n) n1
theorem u90x3 (n1 : Nt) (n : Nat) : V90x3 (xL sW c L [1, 0, 0, 0, 1, 0, 0, 1, 1, 1, 1, 1, 0, 1, 1, 0, 0] uP (q90x7 c (cu c L) n1) n) = W90x3 c L (oP n1) n := by
 induction n with
 | zero => rfl
 | succ n ih => rw [gW, s90x3]; simp only [ih]; rfl
theorem w90x3 (n1 : Nt) : X90x3 c (cu c L) n1 = W90x3 c L (oP n1) L := u90x3 c L n1 L
def J90x4 (c : TC0) (L : Nat) (n2 : List UInt8 → Int → Rt) (n1 : List UInt8 → Int → Rt) : Bool → List UInt8 → Int → Rt := B90x4 c n2 n1
theorem j90x4 (n2 : Nt) (n1 : Nt) : X90x4 c (cu c L) n2 n1 = J90x4 c L (aFm n2) (oP n1) := by rw [X90x4, aY, s90x4]; rfl
def W90x2 (c : TC0) (L : Nat) (n1 : List UInt8 → Int → Rt) : Nat → List UInt8 → Int → Rt
 | 0 => fun _ _ => none
 | n + 1 => B90x2 c (J90x4 c L (W90x2 c L n1 n) n1)
theorem u90x2 (n1 : Nt) (n : Nat) : aFm (xL sW c L [1, 0, 0, 0, 1, 0, 0, 1, 1, 1, 0, 0, 0] qE (q90x6 c (cu c L) n1) n) = W90x2 c L (oP n1) n := by
 induction n with
 | zero => rfl
 | succ n ih => rw [gW, s90x2]; simp only [j90x4, ih]; rfl
theorem w90x2 (n1 : Nt) : X90x2 c (cu c L) n1 = W90x2 c L (oP n1) L := u90x2 c L n1 L
def sN (c : TC0) (L : Nat) : Nat → List UInt8 → Int → Rt
 | 0 => fun _ _ => none
 | n + 1 => B90x1 c (sN c L n) (W90x2 c L (sN c L n) L) (W90x3 c L (sN c L n) L)
theorem u90x1 (n : Nat) : oP (xL sW c L [1, 0, 0, 0] qF (q90x2 c (cu c L)) n) = sN c L n := by
 induction n with
 | zero => rfl
 | succ n ih => rw [gW, s90x1]; simp only [w90x2, w90x3, ih]; rfl
theorem w90x1 : X90x1 c (cu c L) = sN c L L := u90x1 c L L
def F90 (c : TC0) (L : Nat) : List UInt8 → Int → Rt := B90x0 c (sN c L L)
theorem e90 : V90x0 (xF sW c (cu c L)) = F90 c L := by rw [s90x0]; simp only [w90x1]; rfl
theorem c90 (a0 : List UInt8) (a1 : Int) (L n : Nat) : CTp L (n + 1) 90 [yT a0, yI a1] = F90 (CTp L n) L a0 a1 := by rw [← e90]; exact cg (x := sW) (by kernel_rfl) (by kernel_rfl) L n _
def q91x0 (c : TC0) (e : Cu) : Kt := xK sV
def q91x1 (c : TC0) (e : Cu) : Kt := xT sV c e [1, 1, 1, 1] (q91x0 c e)
def aC8 (c : TC0) (e : Cu) : Kt := dD U0 0 (q91x1 c e)
def q91x3 (c : TC0) (e : Cu) : Kt := xT sV c e [1, 1, 1, 0, 1, 0, 1, 1, 1, 1, 1, 1, 1, 0, 1, 1, 1] (aC8 c e)
def q91x4 (c : TC0) (e : Cu) : Kt := xT sV c e [1, 1, 1, 1, 1, 1, 1, 1, 1] (q91x0 c e)
def q91x5 (c : TC0) (e : Cu) : Kt := dD U0 1 (q91x4 c e)
def aFC (c : TC0) (k1 : Bool → Int → G.K → G.X → G.K → G.X → Rt) (k2 : Int → G.K → G.X → G.K → G.X → Rt) (k3 : Int → G.K → G.X → G.K → G.X → Rt) (k4 : Bool → Int → Int → G.K → G.X → G.K → G.X → Rt) (a0 : List UInt8) (a1 : Int) : Rt :=
 ob (idx a0 a1) fun v0 =>
 cnd (decide ((v0.toNat : Int) = (40 : Int))) (some [yR 18 (G.K.mk (1 : Int) a1 ([] : List UInt8) ([] : List UInt8) ([] : List UInt8)), yI (IntKind.i64.wrap (a1 + (1 : Int))), yR 17 (G.X.mk (0 : Int) (0 : Int))]) (cnd (decide ((v0.toNat : Int) = (41 : Int))) (some [yR 18 (G.K.mk (2 : Int) a1 ([] : List UInt8) ([] : List UInt8) ([] : List UInt8)), yI (IntKind.i64.wrap (a1 + (1 : Int))), yR 17 (G.X.mk (0 : Int) (0 : Int))]) (cnd (decide ((v0.toNat : Int) = (39 : Int))) (some [yR 18 (G.K.mk (4 : Int) a1 ([] : List UInt8) ([] : List UInt8) ([] : List UInt8)), yI (IntKind.i64.wrap (a1 + (1 : Int))), yR 17 (G.X.mk (0 : Int) (0 : Int))]) (cnd (decide ((v0.toNat : Int) = (34 : Int))) (obL [.str, i6, .rc 17] (c 114 [yT a0, yI (IntKind.i64.wrap (a1 + (1 : Int))), ⟨(.int .u8), (34 : Int)⟩]) fun (r1 : List UInt8 × Int × G.X × Unit) =>
 cnd (decide (r1.2.2.1.err = (0 : Int))) (k1 (decide ((200 : Int) < (List.length r1.1 : Int))) r1.2.1 (G.K.mk (7 : Int) a1 ([] : List UInt8) r1.1 ([] : List UInt8)) r1.2.2.1 (G.K.mk (0 : Int) (0 : Int) ([] : List UInt8) ([] : List UInt8) ([] : List UInt8)) (G.X.mk (0 : Int) (0 : Int))) (k1 false r1.2.1 (G.K.mk (7 : Int) a1 ([] : List UInt8) r1.1 ([] : List UInt8)) r1.2.2.1 (G.K.mk (0 : Int) (0 : Int) ([] : List UInt8) ([] : List UInt8) ([] : List UInt8)) (G.X.mk (0 : Int) (0 : Int)))) (cnd (decide ((v0.toNat : Int) = (124 : Int))) (obL [.str, i6, .rc 17] (c 114 [yT a0, yI (IntKind.i64.wrap (a1 + (1 : Int))), ⟨(.int .u8), (124 : Int)⟩]) fun (r2 : List UInt8 × Int × G.X × Unit) =>
 cnd (decide (r2.2.2.1.err = (0 : Int))) (obL [.rc 17] (c 115 [yR 18 (G.K.mk (6 : Int) a1 ([] : List UInt8) r2.1 ([] : List UInt8)), yB true]) fun (r3 : G.X × Unit) =>
 k2 r2.2.1 (G.K.mk (6 : Int) a1 ([] : List UInt8) r2.1 ([] : List UInt8)) r3.1 (G.K.mk (0 : Int) (0 : Int) ([] : List UInt8) ([] : List UInt8) ([] : List UInt8)) (G.X.mk (0 : Int) (0 : Int))) (k2 r2.2.1 (G.K.mk (6 : Int) a1 ([] : List UInt8) r2.1 ([] : List UInt8)) r2.2.2.1 (G.K.mk (0 : Int) (0 : Int) ([] : List UInt8) ([] : List UInt8) ([] : List UInt8)) (G.X.mk (0 : Int) (0 : Int)))) (obL [.bool] (c 116 [⟨(.int .u8), (v0.toNat : Int)⟩]) fun (r4 : Bool × Unit) =>
 cnd (!r4.1) (obL [.rc 17] (c 76 [yI (12 : Int), yI a1]) fun (r5 : G.X × Unit) =>
 some [yR 18 (G.K.mk (0 : Int) a1 ([] : List UInt8) ([] : List UInt8) ([] : List UInt8)), yI a1, yR 17 r5.1]) (obL [i6] (c 117 [yT a0, yI a1]) fun (r6 : Int × Unit) =>
 ob (slc a0 a1 r6.1) fun v7 =>
 obL [.bool] (c 113 [yT a0, yI r6.1, ⟨(.int .u8), (58 : Int)⟩, ⟨(.int .u8), (58 : Int)⟩]) fun (r8 : Bool × Unit) =>
 cnd r8.1 (obL [.rc 18, i6, .rc 17] (c 118 [yT a0, yR 18 (G.K.mk (0 : Int) a1 ([] : List UInt8) ([] : List UInt8) ([] : List UInt8)), yT v7, yI r6.1]) fun (r9 : G.K × Int × G.X × Unit) =>
 some [yR 18 r9.1, yI r9.2.1, yR 17 r9.2.2.1]) (obL [.str, .str, .bool] (c 119 [yT v7]) fun (r10 : List UInt8 × List UInt8 × Bool × Unit) =>
 cnd (decide (v7 = ([46] : List UInt8))) (k3 r6.1 (G.K.mk (3 : Int) a1 ([] : List UInt8) ([] : List UInt8) ([] : List UInt8)) (G.X.mk (0 : Int) (0 : Int)) (G.K.mk (0 : Int) (0 : Int) ([] : List UInt8) ([] : List UInt8) ([] : List UInt8)) (G.X.mk (0 : Int) (0 : Int))) (cnd r10.2.2.1 (obL [.str] (c 120 [yT r10.2.1]) fun (r11 : List UInt8 × Unit) =>
 cnd (decide (r11.1 = ([48] : List UInt8))) (obL [.rc 17] (c 76 [yI (12 : Int), yI a1]) fun (r12 : G.X × Unit) =>
 some [yR 18 (G.K.mk (0 : Int) a1 ([] : List UInt8) ([] : List UInt8) ([] : List UInt8)), yI r6.1, yR 17 r12.1]) (obL [.str] (c 120 [yT r10.1]) fun (r13 : List UInt8 × Unit) =>
 obL [.str] (c 120 [yT r10.2.1]) fun (r14 : List UInt8 × Unit) =>
 obL [.str, .str] (c 86 [yT r13.1, yT r14.1]) fun (r15 : List UInt8 × List UInt8 × Unit) =>
 obL [i6] (c 121 [yT r15.1]) fun (r16 : Int × Unit) =>
 cnd (decide ((100 : Int) < r16.1)) (k4 true a1 r6.1 (G.K.mk (5 : Int) a1 ([] : List UInt8) r15.1 r15.2.1) (G.X.mk (0 : Int) (0 : Int)) (G.K.mk (0 : Int) (0 : Int) ([] : List UInt8) ([] : List UInt8) ([] : List UInt8)) (G.X.mk (0 : Int) (0 : Int))) (obL [i6] (c 121 [yT r15.2.1]) fun (r17 : Int × Unit) =>
 k4 (decide ((100 : Int) < r17.1)) a1 r6.1 (G.K.mk (5 : Int) a1 ([] : List UInt8) r15.1 r15.2.1) (G.X.mk (0 : Int) (0 : Int)) (G.K.mk (0 : Int) (0 : Int) ([] : List UInt8) ([] : List UInt8) ([] : List UInt8)) (G.X.mk (0 : Int) (0 : Int))))) (obL [.rc 17] (c 115 [yR 18 (G.K.mk (6 : Int) a1 ([] : List UInt8) v7 ([] : List UInt8)), yB false]) fun (r18 : G.X × Unit) =>
 k3 r6.1 (G.K.mk (6 : Int) a1 ([] : List UInt8) v7 ([] : List UInt8)) r18.1 (G.K.mk (0 : Int) (0 : Int) ([] : List UInt8) ([] : List UInt8) ([] : List UInt8)) (G.X.mk (0 : Int) (0 : Int)))))))))))
def V91x0 (n : Nt) : List UInt8 → Int → Rt := fun x0 x1 => n [yT x0, yI x1]
def B91x1 (c : TC0) (k5 : Int → G.K → G.X → G.K → G.X → Rt) (a65 : Bool) (a1 : Int) (b107 : G.K) (b108 : G.X) (b104 : G.K) (b106 : G.X) : Rt :=
 cnd a65 (obL [.rc 17] (c 76 [yI (2 : Int), yI b107.pos]) fun (r0 : G.X × Unit) =>
 k5 a1 b107 r0.1 b104 b106) (k5 a1 b107 b108 b104 b106)
def V91x1 (n : Nt) : Bool → Int → G.K → G.X → G.K → G.X → Rt := fun x0 x1 x2 x3 x4 x5 => n [yB x0, yI x1, yR 18 x2, yR 17 x3, yR 18 x4, yR 17 x5]
def X91x1 := V91x1 (xD sV e [1, 1, 1, 0, 1, 0, 1, 1, 1, 1, 1, 1, 1, 0, 1, 1, 0, 1, 0] aEk (q91x3 c e))
def B91x2 (c : TC0) (a1 : Int) (b107 : G.K) (b108 : G.X) (b104 : G.K) (b106 : G.X) : Rt :=
 some [yR 18 b107, yI a1, yR 17 b108]
def V91x2 (n : Nt) : Int → G.K → G.X → G.K → G.X → Rt := fun x0 x1 x2 x3 x4 => n [yI x0, yR 18 x1, yR 17 x2, yR 18 x3, yR 17 x4]
def X91x2 := V91x2 (xD sV e [1, 1, 1, 0, 1, 0, 1, 1, 1, 1, 1, 1, 1, 1, 1, 0, 1, 1, 1, 0] aEj (aC8 c e))
def B91x3 (c : TC0) (a10 : Int) (b107 : G.K) (b108 : G.X) (b104 : G.K) (b106 : G.X) : Rt :=
 some [yR 18 b107, yI a10, yR 17 b108]
def V91x3 (n : Nt) : Int → G.K → G.X → G.K → G.X → Rt := fun x0 x1 x2 x3 x4 => n [yI x0, yR 18 x1, yR 17 x2, yR 18 x3, yR 17 x4]
def X91x3 := V91x3 (xD sV e [1, 1, 1, 1, 1, 1, 1, 1, 1, 0] aEi (q91x0 c e))
def B91x4 (c : TC0) (k3 : Int → G.K → G.X → G.K → G.X → Rt) (a163 : Bool) (a1 : Int) (a10 : Int) (b107 : G.K) (b108 : G.X) (b104 : G.K) (b106 : G.X) : Rt :=
 cnd a163 (obL [.rc 17] (c 76 [yI (2 : Int), yI a1]) fun (r0 : G.X × Unit) =>
 some [yR 18 b107, yI a10, yR 17 r0.1]) (k3 a10 b107 b108 b104 b106)
def V91x4 (n : Nt) : Bool → Int → Int → G.K → G.X → G.K → G.X → Rt := fun x0 x1 x2 x3 x4 x5 x6 => n [yB x0, yI x1, yI x2, yR 18 x3, yR 17 x4, yR 18 x5, yR 17 x6]
def X91x4 := V91x4 (xD sV e [1, 1, 1, 1, 1, 1, 1, 1, 0, 0, 1, 1, 1, 0, 1, 1, 1, 1, 0] aEh (q91x5 c e))
def B91x5 (c : TC0) (a1 : Int) (b107 : G.K) (b108 : G.X) (b104 : G.K) (b106 : G.X) : Rt :=
 some [yR 18 b107, yI a1, yR 17 b108]
def V91x5 (n : Nt) : Int → G.K → G.X → G.K → G.X → Rt := fun x0 x1 x2 x3 x4 => n [yI x0, yR 18 x1, yR 17 x2, yR 18 x3, yR 17 x4]
def X91x5 := V91x5 (xD sV e [1, 1, 1, 0, 1, 0, 1, 1, 1, 1, 1, 1, 1, 0, 1, 1, 1, 0] aEg (aC8 c e))
theorem s91x0 : V91x0 (xF sV c e) = aFC c (X91x1 c e) (X91x2 c e) (X91x3 c e) (X91x4 c e) := by kernel_rfl
theorem s91x1 : V91x1 (xA sV c e [1, 1, 1, 0, 1, 0, 1, 1, 1, 1, 1, 1, 1, 0, 1, 1, 0, 1, 0] aEk (q91x3 c e)) = B91x1 c (X91x5 c e) := by kernel_rfl
theorem s91x2 : V91x2 (xA sV c e [1, 1, 1, 0, 1, 0, 1, 1, 1, 1, 1, 1, 1, 1, 1, 0, 1, 1, 1, 0] aEj (aC8 c e)) = B91x2 c := by kernel_rfl
theorem s91x3 : V91x3 (xA sV c e [1, 1, 1, 1, 1, 1, 1, 1, 1, 0] aEi (q91x0 c e)) = B91x3 c := by kernel_rfl
theorem s91x4 : V91x4 (xA sV c e [1, 1, 1, 1, 1, 1, 1, 1, 0, 0, 1, 1, 1, 0, 1, 1, 1, 1, 0] aEh (q91x5 c e)) = B91x4 c (X91x3 c e) := by kernel_rfl
theorem s91x5 : V91x5 (xA sV c e [1, 1, 1, 0, 1, 0, 1, 1, 1, 1, 1, 1, 1, 0, 1, 1, 1, 0] aEg (aC8 c e)) = B91x5 c := by kernel_rfl
def J91x2 (c : TC0) (L : Nat) : Int → G.K → G.X → G.K → G.X → Rt := B91x2 c
theorem j91x2 : X91x2 c (cu c L) = J91x2 c L := by rw [X91x2, aY, s91x2]; rfl
def J91x3 (c : TC0) (L : Nat) : Int → G.K → G.X → G.K → G.X → Rt := B91x3 c
theorem j91x3 : X91x3 c (cu c L) = J91x3 c L := by rw [X91x3, aY, s91x3]; rfl
def J91x4 (c : TC0) (L : Nat) : Bool → Int → Int → G.K → G.X → G.K → G.X → Rt := B91x4 c (J91x3 c L)
theorem j91x4 : X91x4 c (cu c L) = J91x4 c L := by rw [X91x4, aY, s91x4]; simp only [j91x3]; rfl
def J91x5 (c : TC0) (L : Nat) : Int → G.K → G.X → G.K → G.X → Rt := B91x5 c
theorem j91x5 : X91x5 c (cu c L) = J91x5 c L := by rw [X91x5, aY, s91x5]; rfl
def J91x1 (c : TC0) (L : Nat) : Bool → Int → G.K → G.X → G.K → G.X → Rt := B91x1 c (J91x5 c L)
theorem j91x1 : X91x1 c (cu c L) = J91x1 c L := by rw [X91x1, aY, s91x1]; simp only [j91x5]; rfl
def F91 (c : TC0) (L : Nat) : List UInt8 → Int → Rt := aFC c (J91x1 c L) (J91x2 c L) (J91x3 c L) (J91x4 c L)
theorem e91 : V91x0 (xF sV c (cu c L)) = F91 c L := by rw [s91x0]; simp only [j91x1, j91x2, j91x3, j91x4]; rfl
theorem c91 (a0 : List UInt8) (a1 : Int) (L n : Nat) : CTp L (n + 1) 91 [yT a0, yI a1] = F91 (CTp L n) L a0 a1 := by rw [← e91]; exact cg (x := sV) (by kernel_rfl) (by kernel_rfl) L n _
end
end Go.TV
namespace Go.TV
open Go.AI Go.PI Go.Proofs
theorem obL_l {β : Type} {b : List G.T} {K : List G.T × Unit → Option β} : obL (D := U0.D) [.sl (.rc 3)] (some [yS 3 b]) K = K (b, ()) := rfl
theorem yO {β : Type} {A : Option β} : chk true A = A := rfl
theorem wrapn {k : Nat} (h : k < 4000000000000000000) : IntKind.i64.wrap (k : Int) = (k : Int) := by
 unfold IntKind.wrap
 simp [IntKind.bits, IntKind.signed]
 omega
theorem Con_loop {c : TC0} {L : Nat} {t : G.T} {a : List G.T} (hb : a.length < 1000000000) : ∀ (l : List G.T) (k m : Nat), a.drop k = l → l.length < m →
    (∀ x, x ∈ l → c 21 (tt2 x t) = some (bb (decide (x = t)))) → zK c L m a (k : Int) t = some (bb (decide (t ∈ l))) := by
 intro l
 induction l with
 | nil =>
  intro k m h1 h3 _
  obtain ⟨m, rfl⟩ : ∃ m', m = m' + 1 := ⟨m - 1, by simp at h3; omega⟩
  have e1 := aW h1
  have e3 : decide ((k : Int) < (a.length : Int)) = false := by simp; omega
  rw [zK, B46x1, e3, aH]; simp [bb]
 | cons x l ih =>
  intro k m h1 h3 hc
  obtain ⟨m, rfl⟩ : ∃ m', m = m' + 1 := ⟨m - 1, by simp at h3; omega⟩
  obtain ⟨a1, a2, a3⟩ := aV h1
  have e3 : decide ((k : Int) < (a.length : Int)) = true := by simp; omega
  have hxy : c 21 [yR 3 x, yR 3 t] = some [yB (decide (x = t))] := hc x (mhE ..)
  rw [zK, B46x1, e3, aI, aL, a1, dE, hxy, cY, dF (by omega)]
  by_cases e : x = t
  ·subst e; simp [cnd, bb]
  ·have e' : ¬ t = x := fun h => e h.symm
   simp only [e, decide_false, aH]
   rw [ih (k + 1) m a3 (by simp at h3; omega) fun z hz => hc z (mtE _ hz)]
   simp [e']
def lt2 (a : List G.T) (t : G.T) : TVs := [yS 3 a, yR 3 t]
def tl1 (a : List G.T) : TVs := [yS 3 a]
theorem Con_ok {a : List G.T} {t : G.T} {L n : Nat} (hw : cI a < 1000000000) (hL : cI a < L) (hn : cI a < n) : CTp L n 46 (lt2 a t) = some (bb (decide (t ∈ a))) := by
 have hlen := dP a
 obtain ⟨n, rfl⟩ : ∃ n', n = n' + 1 := ⟨n - 1, by omega⟩
 show CTp L (n + 1) 46 [yS 3 _, yR 3 _] = _
 rw [c46]
 exact Con_loop (by omega) a 0 L rfl (by omega) fun x hx => aFB x (by have := bI hx; simp only [wfT]; omega) t L n (by have := bI hx; omega) (by have := bI hx; omega)
theorem args_ok {t : G.T} {L n : Nat} : CTp L (n + 1) 74 [yR 3 t] = some (tl1 (if t.kind = 3 then t.args else [])) := by
 rw [c74]
 by_cases h : t.kind = 3 <;> simp [F74, B74x0, h, cnd, tl1]
mutual
noncomputable def occ (s : G.T) : G.T → Bool
 | ⟨k, n, v, l⟩ => decide (s = ⟨k, n, v, l⟩) || (decide (k = 3) && occ' s l)
noncomputable def occ' (s : G.T) : List G.T → Bool
 | [] => false
 | x :: l => occ s x || occ' s l
end
theorem aBv {c : TC0} {L : Nat} {s : G.T} {a : List G.T} (hb : a.length < 1000000000) : ∀ (l : List G.T) (k m : Nat), a.drop k = l → l.length < m →
    (∀ x, x ∈ l → c 54 (tt2 s x) = some (bb (occ s x))) → zF c L m a (k : Int) s = some (bb (occ' s l)) := by
 intro l
 induction l with
 | nil =>
  intro k m h1 h3 _
  obtain ⟨m, rfl⟩ : ∃ m', m = m' + 1 := ⟨m - 1, by simp at h3; omega⟩
  have e1 := aW h1
  have e3 : decide ((k : Int) < (a.length : Int)) = false := by simp; omega
  rw [zF, B54x1, e3, aH, occ']; rfl
 | cons x l ih =>
  intro k m h1 h3 hc
  obtain ⟨m, rfl⟩ : ∃ m', m = m' + 1 := ⟨m - 1, by simp at h3; omega⟩
  obtain ⟨a1, a2, a3⟩ := aV h1
  have e3 : decide ((k : Int) < (a.length : Int)) = true := by simp; omega
  have hxy : c 54 [yR 3 s, yR 3 x] = some [yB (occ s x)] := hc x (mhE ..)
  rw [zF, B54x1, e3, aI, aL, a1, dE, hxy, cY, dF (by omega), occ']
  cases occ s x with
  | true => simp [cnd, bb]
  | false =>
   simp only [aH]
   rw [ih (k + 1) m a3 (by simp at h3; omega) fun z hz => hc z (mtE _ hz)]
   simp
theorem Occ_ok (s : G.T) (hs : wfT s) : ∀ (t : G.T), wfT t → ∀ (L n : Nat), tsz s + tsz t ≤ L → tsz s + tsz t ≤ n → CTp L n 54 (tt2 s t) = some (bb (occ s t)) := by
 intro t
 induction t using qZ with
 | h k nm v l ih =>
  intro hw L n hL hn
  simp only [wfT, tsz] at hw hL hn
  have hlen := dP l
  obtain ⟨n, rfl⟩ : ∃ n', n = n' + 2 := ⟨n - 2, by omega⟩
  show CTp L (n + 1 + 1) 54 [yR 3 _, yR 3 _] = _
  rw [c54]
  have h9 : CTp L (n + 1) 21 [yR 3 s, yR 3 ⟨k, nm, v, l⟩] = some [yB (decide (s = ⟨k, nm, v, l⟩))] := aFB s hs _ L (n + 1) (by omega) (by omega)
  have h58 : ∃ al : List G.T, CTp L (n + 1) 74 [yR 3 ⟨k, nm, v, l⟩] = some [yS 3 al] ∧ (k = 3 → al = l) ∧ (¬ k = 3 → al = []) := by
   refine ⟨if k = 3 then l else [], args_ok, fun h => by simp [h], fun h => by simp [h]⟩
  obtain ⟨al, h58, q1, q2⟩ := h58
  rw [F54, B54x0, h9, cY, h58, obL_l, occ]
  by_cases e : s = ⟨k, nm, v, l⟩
  ·simp [e, cnd, bb]
  ·simp only [e, decide_false, aH, Bool.false_or]
   by_cases e2 : k = 3
   ·rw [q1 e2]
    simp only [e2, decide_true, Bool.true_and]
    exact aBv (by omega) l 0 L rfl (by omega) fun x hx => ih x hx (by have := bI hx; simp only [wfT]; omega) L (n + 1) (by have := bI hx; omega) (by have := bI hx; omega)
   ·rw [q2 e2]
    simp only [e2, decide_false, Bool.false_and]
    exact aBv (a := []) (by simp) [] 0 L rfl (by simp; omega) fun x hx => by cases hx
end Go.TV
namespace Go.TV
open Go.AI Go.PI Go.Proofs
def kS : List UInt8 := [108, 105, 115, 112]
def isA (t : G.T) (s : List UInt8) (k : Int) : Bool := decide (t.kind = 3) && decide (t.name = ⟨kS, s⟩) && decide ((t.args.length : Int) = k)
def tsi (t : G.T) (s : List UInt8) (k : Int) : TVs := [yR 3 t, yT s, yI k]
theorem obL_y {β : Type} {b : G.Y} {K : G.Y × Unit → Option β} : obL (D := U0.D) [.rc 1] (some [yR 1 b]) K = K (b, ()) := rfl
theorem aDA {β : Type} {b : Bool} {t : G.T} {K : Bool × G.T × Unit → Option β} : obL (D := U0.D) [.bool, .rc 3] (some [yB b, yR 3 t]) K = K (b, t, ()) := rfl
theorem Lisp_ok {s : List UInt8} {L n : Nat} : CTp L (n + 1) 27 [yT s] = some [yR 1 (⟨kS, s⟩ : G.Y)] := by
 rw [c27]; rfl
theorem Is_ok {t : G.T} {s : List UInt8} {k : Int} {L n : Nat} : CTp L (n + 2) 51 (tsi t s k) = some (bb (isA t s k)) := by
 show CTp L (n + 1 + 1) 51 [yR 3 _, yT _, yI _] = _
 rw [c51, F51, B51x0, Lisp_ok, obL_y]
 simp only [J51x1, B51x1, isA]
 by_cases e1 : t.kind = 3
 ·by_cases e2 : t.name = ⟨kS, s⟩
  ·simp [e1, e2, cnd, bb]
  ·simp [e1, e2, cnd, bb]
 ·simp [e1, cnd, bb]
theorem IsP_ok {t : G.T} {s : List UInt8} {k : Int} {L n : Nat} : CTp L (n + 1) 47 (tsi t s k) = some (bb (isA t s k)) := by
 show CTp L (n + 1) 47 [yR 3 _, yT _, yI _] = _
 rw [c47, F47, B47x0]
 simp only [J47x1, B47x1, isA]
 cases t with | mk kk nm v l =>
 cases nm with | mk p q =>
 by_cases e1 : kk = 3
 ·by_cases e2 : p = kS
  ·by_cases e3 : q = s
   ·simp [G.T.kind, G.T.name, G.T.args, G.Y.package, G.Y.name, kS, e1, e2, e3, cnd, bb]
   ·simp [G.T.kind, G.T.name, G.T.args, G.Y.package, G.Y.name, kS, e1, e2, e3, cnd, bb]
  ·have e2' : ¬ p = [108, 105, 115, 112] := e2
   simp [G.T.kind, G.T.name, G.T.args, G.Y.package, G.Y.name, kS, e1, e2', cnd, bb]
 ·simp [G.T.kind, e1, cnd, bb]
end Go.TV
