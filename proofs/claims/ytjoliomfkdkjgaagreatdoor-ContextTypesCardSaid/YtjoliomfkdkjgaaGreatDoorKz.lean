import Derived.Test.YtjoliomfkdkjgaaGreatDoorKo
import Derived.Test.YtjoliomfkdkjgaaGreatDoorKx
import Derived.Test.YtjoliomfkdkjgaaGreatDoorKy
import Derived.Test.YtjoliomfkdkjgaaGreatDoorKv
import Derived.Test.YtjoliomfkdkjgaaGreatDoorKw
set_option linter.unusedVariables false
set_option linter.unusedSimpArgs false
set_option linter.constructorNameAsVariable false
namespace Go.TV
open Go.AI Go.PI Go.Proofs
set_option maxRecDepth 20000
noncomputable section
variable(c:TC0)(e:Cu)(L:Nat)
def q0x0(c:TC0)(e:Cu):Kt:=xK ii0
def q0x1(c:TC0)(e:Cu):Kt:=xT ii0 c e [1,1,1,1,1,1,1,1] (q0x0 c e)
def q0x2(c:TC0)(e:Cu):Kt:=cU U0 0 (q0x1 c e)
def q0x3(c:TC0)(e:Cu)(n1:Nt):Kt:=lpK U0 aEX n1 (q0x2 c e)
def q0x4(c:TC0)(e:Cu)(n1:Nt):Kt:=xT ii0 c e [1,1,1,1,1,1,1,0,1,0,0,1] (q0x3 c e n1)
def B0x0(c:TC0)(e1:List G.T→List G.T→Int→Rt)(a0:List Int):Rt:=
 obL [.bool] (c 1 []) fun(r0:Bool×Unit)=>
 cnd (!r0.1) (some [yB false]) (cnd (decide ((100:Int)<(List.length a0:Int))) (some [yB true]) (obL [zS 15] (c 2 [⟨(.int .u32),(0:Int)⟩]) fun(r1:List G.E×Unit)=>
 obL [zS 3,.rc 0] (c 3 [yS 15 r1.1,yI (5:Int),yI (2:Int),yR 0 (G.Z.mk a0 (0:Int))]) fun(r2:List G.T×G.Z×Unit)=>
 obL [zS 3,.rc 0] (c 4 [yS 15 r1.1,yS 3 r2.1,yR 0 r2.2.1]) fun(r3:List G.T×G.Z×Unit)=>
 e1 r2.1 r3.1 (0:Int)))
def V0x0(n:Nt):List Int→Rt:=fun x0=>n [⟨(.sl (.int .u8)),x0⟩]
def B0x1(c:TC0)(k2:Bool→Int→List G.T→List G.T→Rt)(a5:List G.T)(a6:List G.T)(a7:Int):Rt:=
 cnd (decide (a7<(List.length a6:Int))) (k2 (decide (a7<(40:Int))) a7 a5 a6) (k2 false a7 a5 a6)
def V0x1(n:Nt):List G.T→List G.T→Int→Rt:=fun x0 x1 x2=>n [yS 3 x0,yS 3 x1,yI x2]
def X0x1:=V0x1 (xE ii0 e [1,1,1,1,1,1,1,0,1,0,0] aEX (q0x2 c e))
def B0x2(c:TC0)(n1:List G.T→List G.T→Int→Rt)(a31:Bool)(a7:Int)(a5:List G.T)(a6:List G.T):Rt:=
 cnd a31 (ob (idx a6 a7) fun v0=>
 ob (idx a6 a7) fun v1=>
 obL [i6] (c 5 [yS 3 a5,yR 3 v0]) fun(r2:Int×Unit)=>
 obL [i6] (c 6 [yS 3 a5,yR 3 v1]) fun(r3:Int×Unit)=>
 cnd (!decide (r2.1=r3.1)) (some [yB false]) (n1 a5 a6 (IntKind.i64.wrap (a7+(1:Int))))) (some [yB true])
def V0x2(n:Nt):Bool→Int→List G.T→List G.T→Rt:=fun x0 x1 x2 x3=>n [yB x0,yI x1,yS 3 x2,yS 3 x3]
def X0x2(n1:Nt):=V0x2 (xD ii0 e [1,1,1,1,1,1,1,0,1,0,0,0,1,0] ct0x2 (q0x4 c e n1))
theorem s0x0:V0x0 (xF ii0 c e)=B0x0 c (X0x1 c e):=by kernel_rfl
theorem s0x1(n1:Nt):V0x1 (xA ii0 c e [1,1,1,1,1,1,1,0,1,0,0] aEX (lpK U0 aEX n1 (q0x2 c e)))=B0x1 c (X0x2 c e n1):=by kernel_rfl
theorem s0x2(n1:Nt):V0x2 (xA ii0 c e [1,1,1,1,1,1,1,0,1,0,0,0,1,0] ct0x2 (q0x4 c e n1))=B0x2 c (V0x1 n1):=by kernel_rfl
def J0x2(c:TC0)(L:Nat)(n1:List G.T→List G.T→Int→Rt):Bool→Int→List G.T→List G.T→Rt:=B0x2 c n1
theorem j0x2(n1:Nt):X0x2 c (cu c L) n1=J0x2 c L (V0x1 n1):=by rw[X0x2,aK,s0x2];rfl
def W0x1(c:TC0)(L:Nat):Nat→List G.T→List G.T→Int→Rt
 |0=>fun _ _ _=>none
 |n+1=>B0x1 c (J0x2 c L (W0x1 c L n))
theorem u0x1(n:Nat):V0x1 (xL ii0 c L [1,1,1,1,1,1,1,0,1,0,0] aEX (q0x2 c (cu c L)) n)=W0x1 c L n:=by
 induction n with
 |zero=>rfl
 |succ n ih=>rw[gC,s0x1];simp only[j0x2,ih];rfl
theorem w0x1:X0x1 c (cu c L)=W0x1 c L L:=u0x1 c L L
def F0(c:TC0)(L:Nat):List Int→Rt:=B0x0 c (W0x1 c L L)
theorem e0:V0x0 (xF ii0 c (cu c L))=F0 c L:=by rw[s0x0];simp only[w0x1];rfl
theorem c0(a0:List Int)(L n:Nat):CTp L (n+1) 0 [⟨(.sl (.int .u8)),a0⟩]=F0 (CTp L n) L a0:=by rw[←e0];exact cg (x:=ii0) (by kernel_rfl) (by kernel_rfl) L n _
def q2x0(c:TC0)(e:Cu):Kt:=xK ii2
def q2x1(c:TC0)(e:Cu):Kt:=xT ii2 c e [1,1,1,1] (q2x0 c e)
def q2x2(c:TC0)(e:Cu):Kt:=cU U0 0 (q2x1 c e)
def q2x3(c:TC0)(e:Cu):Kt:=xT ii2 c e [1,1,1,1,1,1] (q2x0 c e)
def q2x4(c:TC0)(e:Cu):Kt:=cU U0 2 (q2x3 c e)
def q2x5(c:TC0)(e:Cu)(n2:Nt):Kt:=lpK U0 aEW n2 (q2x4 c e)
def B2x0(c:TC0)(e1:(List (List G.F))→Int→Int→List G.E→Rt)(a0:Int):Rt:=
 obL [zS 15] (c 9 []) fun(r0:List G.E×Unit)=>
 obL [.sl (zS 4)] (c 10 []) fun(r1:(List (List G.F))×Unit)=>
 e1 r1.1 (0:Int) a0 r0.1
def V2x0(n:Nt):Int→Rt:=fun x0=>n [⟨(.int .u32),x0⟩]
def B2x1(c:TC0)(n1:(List (List G.F))→Int→Int→List G.E→Rt)(e2:Int→List G.L→Int→List G.E→Rt)(a4:(List (List G.F)))(a5:Int)(a0:Int)(a3:List G.E):Rt:=
 cnd (decide (a5<(List.length a4:Int))) (ob (idx a4 a5) fun v0=>
 ob (idx v0 (0:Int)) fun v1=>
 ob (idx a4 a5) fun v2=>
 chk (Nat.ble ((List.length a3+List.length ([(G.E.mk (3:Int) v1.name (G.A.mk ([]:List UInt8) ([]:List G.Y)) (G.M.mk (G.Y.mk ([]:List UInt8) ([]:List UInt8)) ([]:List G.Y) false (G.T.mk (0:Int) (G.Y.mk ([]:List UInt8) ([]:List UInt8)) (G.O.mk (0:Int) ([]:List UInt8) ([]:List UInt8) (G.Y.mk ([]:List UInt8) ([]:List UInt8)) ([]:List UInt8) ([]:List G.O)) ([]:List G.T))) v2 ([]:List G.T) ([]:List (List G.N)) ([]:List G.E) (G.B.mk (G.Y.mk ([]:List UInt8) ([]:List UInt8)) ([]:List G.D)) ([]:List G.U) ([]:List G.Y) ([]:List G.Y) ([]:List UInt8) (0:Int))]:List G.E))*568) 1073741824)<|
 n1 a4 (IntKind.i64.wrap (a5+(1:Int))) a0 (a3++([(G.E.mk (3:Int) v1.name (G.A.mk ([]:List UInt8) ([]:List G.Y)) (G.M.mk (G.Y.mk ([]:List UInt8) ([]:List UInt8)) ([]:List G.Y) false (G.T.mk (0:Int) (G.Y.mk ([]:List UInt8) ([]:List UInt8)) (G.O.mk (0:Int) ([]:List UInt8) ([]:List UInt8) (G.Y.mk ([]:List UInt8) ([]:List UInt8)) ([]:List UInt8) ([]:List G.O)) ([]:List G.T))) v2 ([]:List G.T) ([]:List (List G.N)) ([]:List G.E) (G.B.mk (G.Y.mk ([]:List UInt8) ([]:List UInt8)) ([]:List G.D)) ([]:List G.U) ([]:List G.Y) ([]:List G.Y) ([]:List UInt8) (0:Int))]:List G.E))) (obL [zS 16] (c 11 []) fun(r3:List G.L×Unit)=>
 e2 a0 r3.1 (0:Int) a3)
def V2x1(n:Nt):(List (List G.F))→Int→Int→List G.E→Rt:=fun x0 x1 x2 x3=>n [⟨.sl (zS 4),x0⟩,yI x1,⟨(.int .u32),x2⟩,yS 15 x3]
def X2x1:=V2x1 (xE ii2 e [1,1,1,0,1,0,0] aH2 (q2x2 c e))
def B2x2(c:TC0)(k3:Int→Int→List G.L→List G.E→Rt)(a0:Int)(a6:List G.L)(a7:Int)(a3:List G.E):Rt:=
 cnd (decide (a7<(List.length a6:Int))) (chk (decide (0≤a7))<|
 cnd (decide ((IntKind.u32.wrap ((BitVec.ofInt IntKind.u32.bits (Int.fdiv a0 (2^(min (Int.toNat a7) IntKind.u32.bits)))&&&BitVec.ofInt IntKind.u32.bits (1:Int)).toNat:Int))=(0:Int))) (k3 a7 a0 a6 a3) (ob (idx a6 a7) fun v0=>
 ob (idx a6 a7) fun v1=>
 obL [.rc 1] (c 12 [yT v0.name]) fun(r2:G.Y×Unit)=>
 ob (idx a6 a7) fun v3=>
 ob (idx a6 a7) fun v4=>
 none)) (some [yS 15 a3])
def V2x2(n:Nt):Int→List G.L→Int→List G.E→Rt:=fun x0 x1 x2 x3=>n [⟨(.int .u32),x0⟩,yS 16 x1,yI x2,yS 15 x3]
def X2x2:=V2x2 (xE ii2 e [1,1,1,1,1,0,1,0,0] aEW (q2x4 c e))
def B2x3(c:TC0)(n2:Int→List G.L→Int→List G.E→Rt)(a7:Int)(a0:Int)(a6:List G.L)(a3:List G.E):Rt:=
 n2 a0 a6 (IntKind.i64.wrap (a7+(1:Int))) a3
def V2x3(n:Nt):Int→Int→List G.L→List G.E→Rt:=fun x0 x1 x2 x3=>n [yI x0,⟨(.int .u32),x1⟩,yS 16 x2,yS 15 x3]
def X2x3(n2:Nt):=V2x3 (xD ii2 e [1,1,1,1,1,0,1,0,0,1,1,0] ct2x3 (q2x5 c e n2))
theorem s2x0:V2x0 (xF ii2 c e)=B2x0 c (X2x1 c e):=by kernel_rfl
theorem s2x1(n1:Nt):V2x1 (xA ii2 c e [1,1,1,0,1,0,0] aH2 (lpK U0 aH2 n1 (q2x2 c e)))=B2x1 c (V2x1 n1) (X2x2 c e):=by kernel_rfl
theorem s2x2(n2:Nt):V2x2 (xA ii2 c e [1,1,1,1,1,0,1,0,0] aEW (lpK U0 aEW n2 (q2x4 c e)))=B2x2 c (X2x3 c e n2):=by kernel_rfl
theorem s2x3(n2:Nt):V2x3 (xA ii2 c e [1,1,1,1,1,0,1,0,0,1,1,0] ct2x3 (q2x5 c e n2))=B2x3 c (V2x2 n2):=by kernel_rfl
def J2x3(c:TC0)(L:Nat)(n2:Int→List G.L→Int→List G.E→Rt):Int→Int→List G.L→List G.E→Rt:=B2x3 c n2
theorem j2x3(n2:Nt):X2x3 c (cu c L) n2=J2x3 c L (V2x2 n2):=by rw[X2x3,aK,s2x3];rfl
def W2x2(c:TC0)(L:Nat):Nat→Int→List G.L→Int→List G.E→Rt
 |0=>fun _ _ _ _=>none
 |n+1=>B2x2 c (J2x3 c L (W2x2 c L n))
theorem u2x2(n:Nat):V2x2 (xL ii2 c L [1,1,1,1,1,0,1,0,0] aEW (q2x4 c (cu c L)) n)=W2x2 c L n:=by
 induction n with
 |zero=>rfl
 |succ n ih=>rw[gC,s2x2];simp only[j2x3,ih];rfl
theorem w2x2:X2x2 c (cu c L)=W2x2 c L L:=u2x2 c L L
def W2x1(c:TC0)(L:Nat):Nat→(List (List G.F))→Int→Int→List G.E→Rt
 |0=>fun _ _ _ _=>none
 |n+1=>B2x1 c (W2x1 c L n) (W2x2 c L L)
theorem u2x1(n:Nat):V2x1 (xL ii2 c L [1,1,1,0,1,0,0] aH2 (q2x2 c (cu c L)) n)=W2x1 c L n:=by
 induction n with
 |zero=>rfl
 |succ n ih=>rw[gC,s2x1];simp only[w2x2,ih];rfl
theorem w2x1:X2x1 c (cu c L)=W2x1 c L L:=u2x1 c L L
def F2(c:TC0)(L:Nat):Int→Rt:=B2x0 c (W2x1 c L L)
theorem e2:V2x0 (xF ii2 c (cu c L))=F2 c L:=by rw[s2x0];simp only[w2x1];rfl
theorem c2(a0:Int)(L n:Nat):CTp L (n+1) 2 [⟨(.int .u32),a0⟩]=F2 (CTp L n) L a0:=by rw[←e2];exact cg (x:=ii2) (by kernel_rfl) (by kernel_rfl) L n _
def q3x0(c:TC0)(e:Cu):Kt:=xK ii3
def q3x1(c:TC0)(e:Cu):Kt:=xT ii3 c e [1,1,1,1] (q3x0 c e)
def q3x2(c:TC0)(e:Cu):Kt:=cU U0 0 (q3x1 c e)
def q3x3(c:TC0)(e:Cu)(n1:Nt):Kt:=lpK U0 aEV n1 (q3x2 c e)
def q3x4(c:TC0)(e:Cu)(n1:Nt):Kt:=xT ii3 c e [1,1,1,0,1,0,0,1,1] (q3x3 c e n1)
def q3x5(c:TC0)(e:Cu)(n1:Nt):Kt:=cU U0 1 (q3x4 c e n1)
def B3x0(c:TC0)(e1:Int→List G.E→Int→Int→List G.T→G.Z→Rt)(a1:List G.E)(a2:Int)(a3:Int)(b0:G.Z):Rt:=
 obL [i6,.rc 0] (c 13 [yI (IntKind.i64.wrap (a2+(1:Int))),yR 0 b0]) fun(r0:Int×G.Z×Unit)=>
 e1 r0.1 a1 a3 (0:Int) ([]:List G.T) r0.2.1
def V3x0(n:Nt):List G.E→Int→Int→G.Z→Rt:=fun x0 x1 x2 x3=>n [yS 15 x0,yI x1,yI x2,yR 0 x3]
def B3x1(c:TC0)(k2:List G.T→Int→Int→List G.E→Int→G.Z→G.T→Rt)(a10:Int)(a1:List G.E)(a3:Int)(a11:Int)(a9:List G.T)(b0:G.Z):Rt:=
 cnd (decide (a11<a10)) (obL [.rc 3,.rc 0] (c 14 [yS 15 a1,yI a3,yR 0 b0]) fun(r0:G.T×G.Z×Unit)=>
 obL [i6,.rc 0] (c 13 [yI (6:Int),yR 0 r0.2.1]) fun(r1:Int×G.Z×Unit)=>
 cnd (decide (r1.1=(0:Int))) (obL [.rc 3,.rc 0] (c 15 [yR 0 r1.2.1]) fun(r2:G.T×G.Z×Unit)=>
 obL [.rc 3] (c 8 [yT ([99,111,110,115,112]:List UInt8),yS 3 ([r2.1]:List G.T)]) fun(r3:G.T×Unit)=>
 k2 a9 a11 a10 a1 a3 r2.2.1 r3.1) (cnd (decide (r1.1=(1:Int))) (obL [.rc 3,.rc 0] (c 15 [yR 0 r1.2.1]) fun(r4:G.T×G.Z×Unit)=>
 obL [.rc 2,.rc 0] (c 16 [yI (0:Int),yR 0 r4.2.1]) fun(r5:G.O×G.Z×Unit)=>
 obL [.rc 3] (c 17 [yR 2 r5.1]) fun(r6:G.T×Unit)=>
 obL [.rc 3] (c 8 [yT ([101,113,117,97,108]:List UInt8),yS 3 ([r4.1,r6.1]:List G.T)]) fun(r7:G.T×Unit)=>
 k2 a9 a11 a10 a1 a3 r5.2.1 r7.1) (cnd (decide (r1.1=(2:Int))) (obL [.rc 3] (c 18 [yI (0:Int)]) fun(r8:G.T×Unit)=>
 obL [.rc 3,.rc 0] (c 15 [yR 0 r1.2.1]) fun(r9:G.T×G.Z×Unit)=>
 obL [.rc 3] (c 8 [yT ([60]:List UInt8),yS 3 ([r8.1,r9.1]:List G.T)]) fun(r10:G.T×Unit)=>
 k2 a9 a11 a10 a1 a3 r9.2.1 r10.1) (k2 a9 a11 a10 a1 a3 r1.2.1 r0.1)))) (some [yS 3 a9,yR 0 b0])
def V3x1(n:Nt):Int→List G.E→Int→Int→List G.T→G.Z→Rt:=fun x0 x1 x2 x3 x4 x5=>n [yI x0,yS 15 x1,yI x2,yI x3,yS 3 x4,yR 0 x5]
def X3x1:=V3x1 (xE ii3 e [1,1,1,0,1,0,0] aEV (q3x2 c e))
def B3x2(c:TC0)(n1:Int→List G.E→Int→Int→List G.T→G.Z→Rt)(a9:List G.T)(a11:Int)(a10:Int)(a1:List G.E)(a3:Int)(b0:G.Z)(b112:G.T):Rt:=
 chk (Nat.ble ((List.length a9+List.length ([b112]:List G.T))*176) 1073741824)<|
 n1 a10 a1 a3 (IntKind.i64.wrap (a11+(1:Int))) (a9++([b112]:List G.T)) b0
def V3x2(n:Nt):List G.T→Int→Int→List G.E→Int→G.Z→G.T→Rt:=fun x0 x1 x2 x3 x4 x5 x6=>n [yS 3 x0,yI x1,yI x2,yS 15 x3,yI x4,yR 0 x5,yR 3 x6]
def X3x2(n1:Nt):=V3x2 (xD ii3 e [1,1,1,0,1,0,0,1,0,0,1,1,0] ct3x2 (q3x5 c e n1))
theorem s3x0:V3x0 (xF ii3 c e)=B3x0 c (X3x1 c e):=by kernel_rfl
theorem s3x1(n1:Nt):V3x1 (xA ii3 c e [1,1,1,0,1,0,0] aEV (lpK U0 aEV n1 (q3x2 c e)))=B3x1 c (X3x2 c e n1):=by kernel_rfl
theorem s3x2(n1:Nt):V3x2 (xA ii3 c e [1,1,1,0,1,0,0,1,0,0,1,1,0] ct3x2 (q3x5 c e n1))=B3x2 c (V3x1 n1):=by kernel_rfl
def J3x2(c:TC0)(L:Nat)(n1:Int→List G.E→Int→Int→List G.T→G.Z→Rt):List G.T→Int→Int→List G.E→Int→G.Z→G.T→Rt:=B3x2 c n1
theorem j3x2(n1:Nt):X3x2 c (cu c L) n1=J3x2 c L (V3x1 n1):=by rw[X3x2,aK,s3x2];rfl
def W3x1(c:TC0)(L:Nat):Nat→Int→List G.E→Int→Int→List G.T→G.Z→Rt
 |0=>fun _ _ _ _ _ _=>none
 |n+1=>B3x1 c (J3x2 c L (W3x1 c L n))
theorem u3x1(n:Nat):V3x1 (xL ii3 c L [1,1,1,0,1,0,0] aEV (q3x2 c (cu c L)) n)=W3x1 c L n:=by
 induction n with
 |zero=>rfl
 |succ n ih=>rw[gC,s3x1];simp only[j3x2,ih];rfl
theorem w3x1:X3x1 c (cu c L)=W3x1 c L L:=u3x1 c L L
def F3(c:TC0)(L:Nat):List G.E→Int→Int→G.Z→Rt:=B3x0 c (W3x1 c L L)
theorem e3:V3x0 (xF ii3 c (cu c L))=F3 c L:=by rw[s3x0];simp only[w3x1];rfl
theorem c3(a1:List G.E)(a2:Int)(a3:Int)(b0:G.Z)(L n:Nat):CTp L (n+1) 3 [yS 15 a1,yI a2,yI a3,yR 0 b0]=F3 (CTp L n) L a1 a2 a3 b0:=by rw[←e3];exact cg (x:=ii3) (by kernel_rfl) (by kernel_rfl) L n _
def B4x0(c:TC0)(a1:List G.E)(a2:List G.T)(b0:G.Z):Rt:=
 obL [zS 3] (c 19 [yS 3 a2]) fun(r0:List G.T×Unit)=>
 obL [.rc 3,.rc 0] (c 15 [yR 0 b0]) fun(r1:G.T×G.Z×Unit)=>
 obL [.rc 3,.rc 0] (c 20 [yS 15 a1,yI (2:Int),yR 0 r1.2.1]) fun(r2:G.T×G.Z×Unit)=>
 obL [.rc 3,.rc 0] (c 14 [yS 15 a1,yI (1:Int),yR 0 r2.2.1]) fun(r3:G.T×G.Z×Unit)=>
 obL [.rc 3] (c 8 [yT ([99,111,110,115,112]:List UInt8),yS 3 ([r1.1]:List G.T)]) fun(r4:G.T×Unit)=>
 obL [.rc 3] (c 8 [yT ([105,110,116,101,103,101,114,112]:List UInt8),yS 3 ([r1.1]:List G.T)]) fun(r5:G.T×Unit)=>
 obL [.rc 3] (c 8 [yT ([115,121,109,98,111,108,112]:List UInt8),yS 3 ([r1.1]:List G.T)]) fun(r6:G.T×Unit)=>
 obL [.rc 3] (c 8 [yT ([110,111,116]:List UInt8),yS 3 ([r6.1]:List G.T)]) fun(r7:G.T×Unit)=>
 obL [.rc 3] (c 18 [yI (0:Int)]) fun(r8:G.T×Unit)=>
 obL [.rc 3] (c 8 [yT ([101,113,117,97,108]:List UInt8),yS 3 ([r1.1,r8.1]:List G.T)]) fun(r9:G.T×Unit)=>
 chk (Nat.ble ((List.length r0.1+List.length ([r1.1,r2.1,r3.1,r4.1,r5.1,r7.1,r9.1]:List G.T))*176) 1073741824)<|
 some [yS 3 (r0.1++([r1.1,r2.1,r3.1,r4.1,r5.1,r7.1,r9.1]:List G.T)),yR 0 r3.2.1]
def V4x0(n:Nt):List G.E→List G.T→G.Z→Rt:=fun x0 x1 x2=>n [yS 15 x0,yS 3 x1,yR 0 x2]
theorem s4x0:V4x0 (xF ii4 c e)=B4x0 c:=by kernel_rfl
def F4(c:TC0)(L:Nat):List G.E→List G.T→G.Z→Rt:=B4x0 c
theorem e4:V4x0 (xF ii4 c (cu c L))=F4 c L:=s4x0 _ _
theorem c4(a1:List G.E)(a2:List G.T)(b0:G.Z)(L n:Nat):CTp L (n+1) 4 [yS 15 a1,yS 3 a2,yR 0 b0]=F4 (CTp L n) L a1 a2 b0:=by rw[←e4];exact cg (x:=ii4) (by kernel_rfl) (by kernel_rfl) L n _
def q5x0(c:TC0)(e:Cu):Kt:=xK ii5
def q5x1(c:TC0)(e:Cu):Kt:=xT ii5 c e [1,1,1] (q5x0 c e)
def q5x2(c:TC0)(e:Cu):Kt:=cU U0 0 (q5x1 c e)
def q5x3(c:TC0)(e:Cu):Kt:=xT ii5 c e [1,1,1,0,1] (q5x0 c e)
def q5x4(c:TC0)(e:Cu):Kt:=cU U0 5 (q5x3 c e)
def q5x5(c:TC0)(e:Cu)(n3:Nt):Kt:=lpK U0 aEU n3 (q5x4 c e)
def q5x6(c:TC0)(e:Cu):Kt:=xT ii5 c e [1,1,0,0,1,1,1,0,0,1,1,0,0,1,1] (q5x2 c e)
def q5x7(c:TC0)(e:Cu):Kt:=cU U0 1 (q5x6 c e)
def B5x0(c:TC0)(k1:List G.T→G.T→Int→Rt)(k2:Bool→List G.T→G.T→Int→Rt)(a0:List G.T)(a1:G.T):Rt:=
 cnd (decide (a1.kind=(2:Int))) (obL [i6] (c 21 [yR 2 a1.value]) fun(r0:Int×Unit)=>
 k1 a0 a1 r0.1) (cnd (decide (a1.kind=(3:Int))) (obL [.bool] (c 22 [yR 3 a1,yT ([105,102]:List UInt8),yI (List.length a1.args:Int)]) fun(r1:Bool×Unit)=>
 k2 (!r1.1) a0 a1 (2047:Int)) (k2 false a0 a1 (2047:Int)))
def V5x0(n:Nt):List G.T→G.T→Rt:=fun x0 x1=>n [yS 3 x0,yR 3 x1]
def B5x1(c:TC0)(e3:Int→List G.T→G.T→Int→Int→Rt)(a0:List G.T)(b103:G.T)(b105:Int):Rt:=
 e3 (List.length a0:Int) a0 b103 (0:Int) b105
def V5x1(n:Nt):List G.T→G.T→Int→Rt:=fun x0 x1 x2=>n [yS 3 x0,yR 3 x1,yI x2]
def X5x1:=V5x1 (xD ii5 e [1,1,1,0] ct5x1 (q5x0 c e))
def B5x2(c:TC0)(k4:Bool→Int→List G.T→G.T→Int→Rt)(k1:List G.T→G.T→Int→Rt)(a18:Bool)(a0:List G.T)(b103:G.T)(b105:Int):Rt:=
 cnd a18 (obL [i6,.bool] (c 23 [yR 1 b103.name]) fun(r0:Int×Bool×Unit)=>
 cnd r0.2.1 (k4 (decide (r0.1=(List.length b103.args:Int))) r0.1 a0 b103 b105) (k4 false r0.1 a0 b103 b105)) (k1 a0 b103 b105)
def V5x2(n:Nt):Bool→List G.T→G.T→Int→Rt:=fun x0 x1 x2 x3=>n [yB x0,yS 3 x1,yR 3 x2,yI x3]
def X5x2:=V5x2 (xD ii5 e [1,1,0,0,1,1,1,0] ct5x2 (q5x2 c e))
def B5x3(c:TC0)(k5:Int→Int→List G.T→G.T→Int→Rt)(a72:Int)(a71:List G.T)(a70:G.T)(a73:Int)(b105:Int):Rt:=
 cnd (decide (a73<a72)) (ob (idx a71 a73) fun v0=>
 obL [i6,.rc 3,.bool] (c 24 [yR 3 v0,yR 3 a70]) fun(r1:Int×G.T×Bool×Unit)=>
 cnd r1.2.2.1 (obL [.rc 3] (c 25 [yR 3 v0]) fun(r2:G.T×Unit)=>
 k5 a73 a72 a71 a70 (IntKind.i64.wrap ((BitVec.ofInt IntKind.i64.bits b105&&&BitVec.ofInt IntKind.i64.bits r1.1).toNat:Int))) (k5 a73 a72 a71 a70 b105)) (some [yI b105])
def V5x3(n:Nt):Int→List G.T→G.T→Int→Int→Rt:=fun x0 x1 x2 x3 x4=>n [yI x0,yS 3 x1,yR 3 x2,yI x3,yI x4]
def X5x3:=V5x3 (xE ii5 e [1,1,1,0,0,1,0,0] aEU (q5x4 c e))
def B5x4(c:TC0)(e6:Int→Int→List G.T→List Int→G.T→Int→Rt)(k1:List G.T→G.T→Int→Rt)(a43:Bool)(a6:Int)(a0:List G.T)(b103:G.T)(b105:Int):Rt:=
 cnd a43 (chk (decide (0≤a6)&&decide (a6≤a6)&&decide (a6*(8:Int)≤1073741824)&&decide (a6≤1073741824))<|
 chk (decide (a6=a6))<|
 e6 (List.length (mB (0:Int) (Int.toNat a6)):Int) (0:Int) a0 (mB (0:Int) (Int.toNat a6)) b103 b105) (k1 a0 b103 b105)
def V5x4(n:Nt):Bool→Int→List G.T→G.T→Int→Rt:=fun x0 x1 x2 x3 x4=>n [yB x0,yI x1,yS 3 x2,yR 3 x3,yI x4]
def X5x4:=V5x4 (xD ii5 e [1,1,0,0,1,1,1,0,0,1,1,0] ct5x4 (q5x2 c e))
def B5x5(c:TC0)(n3:Int→List G.T→G.T→Int→Int→Rt)(a73:Int)(a72:Int)(a71:List G.T)(a70:G.T)(b105:Int):Rt:=
 n3 a72 a71 a70 (IntKind.i64.wrap (a73+(1:Int))) b105
def V5x5(n:Nt):Int→Int→List G.T→G.T→Int→Rt:=fun x0 x1 x2 x3 x4=>n [yI x0,yI x1,yS 3 x2,yR 3 x3,yI x4]
def X5x5(n3:Nt):=V5x5 (xD ii5 e [1,1,1,0,0,1,0,0,1,1,1,1,1,0] ct5x5 (q5x5 c e n3))
def B5x6(c:TC0)(n6:Int→Int→List G.T→List Int→G.T→Int→Rt)(k1:List G.T→G.T→Int→Rt)(a47:Int)(a48:Int)(a0:List G.T)(b145:List Int)(b103:G.T)(b105:Int):Rt:=
 cnd (decide (a48<a47)) (chk (bD a48 (List.length b145))<|
 ob (idx b145 a48) fun v0=>
 n6 a47 (IntKind.i64.wrap (a48+(1:Int))) a0 (List.set b145 (Int.toNat a48) (2047:Int)) b103 b105) (obL [i6] (c 26 [yR 1 b103.name,⟨.sl i6,b145⟩]) fun(r1:Int×Unit)=>
 k1 a0 b103 r1.1)
def V5x6(n:Nt):Int→Int→List G.T→List Int→G.T→Int→Rt:=fun x0 x1 x2 x3 x4 x5=>n [yI x0,yI x1,yS 3 x2,⟨.sl i6,x3⟩,yR 3 x4,yI x5]
def X5x6:=V5x6 (xE ii5 e [1,1,0,0,1,1,1,0,0,1,1,0,0,1,0,1,0,0] aHP (q5x7 c e))
theorem s5x0:V5x0 (xF ii5 c e)=B5x0 c (X5x1 c e) (X5x2 c e):=by kernel_rfl
theorem s5x1:V5x1 (xA ii5 c e [1,1,1,0] ct5x1 (q5x0 c e))=B5x1 c (X5x3 c e):=by kernel_rfl
theorem s5x2:V5x2 (xA ii5 c e [1,1,0,0,1,1,1,0] ct5x2 (q5x2 c e))=B5x2 c (X5x4 c e) (X5x1 c e):=by kernel_rfl
theorem s5x3(n3:Nt):V5x3 (xA ii5 c e [1,1,1,0,0,1,0,0] aEU (lpK U0 aEU n3 (q5x4 c e)))=B5x3 c (X5x5 c e n3):=by kernel_rfl
theorem s5x4:V5x4 (xA ii5 c e [1,1,0,0,1,1,1,0,0,1,1,0] ct5x4 (q5x2 c e))=B5x4 c (X5x6 c e) (X5x1 c e):=by kernel_rfl
theorem s5x5(n3:Nt):V5x5 (xA ii5 c e [1,1,1,0,0,1,0,0,1,1,1,1,1,0] ct5x5 (q5x5 c e n3))=B5x5 c (V5x3 n3):=by kernel_rfl
theorem s5x6(n6:Nt):V5x6 (xA ii5 c e [1,1,0,0,1,1,1,0,0,1,1,0,0,1,0,1,0,0] aHP (lpK U0 aHP n6 (q5x7 c e)))=B5x6 c (V5x6 n6) (X5x1 c e):=by kernel_rfl
def J5x5(c:TC0)(L:Nat)(n3:Int→List G.T→G.T→Int→Int→Rt):Int→Int→List G.T→G.T→Int→Rt:=B5x5 c n3
theorem j5x5(n3:Nt):X5x5 c (cu c L) n3=J5x5 c L (V5x3 n3):=by rw[X5x5,aK,s5x5];rfl
def W5x3(c:TC0)(L:Nat):Nat→Int→List G.T→G.T→Int→Int→Rt
 |0=>fun _ _ _ _ _=>none
 |n+1=>B5x3 c (J5x5 c L (W5x3 c L n))
theorem u5x3(n:Nat):V5x3 (xL ii5 c L [1,1,1,0,0,1,0,0] aEU (q5x4 c (cu c L)) n)=W5x3 c L n:=by
 induction n with
 |zero=>rfl
 |succ n ih=>rw[gC,s5x3];simp only[j5x5,ih];rfl
theorem w5x3:X5x3 c (cu c L)=W5x3 c L L:=u5x3 c L L
def J5x1(c:TC0)(L:Nat):List G.T→G.T→Int→Rt:=B5x1 c (W5x3 c L L)
theorem j5x1:X5x1 c (cu c L)=J5x1 c L:=by rw[X5x1,aK,s5x1];simp only[w5x3];rfl
def W5x6(c:TC0)(L:Nat):Nat→Int→Int→List G.T→List Int→G.T→Int→Rt
 |0=>fun _ _ _ _ _ _=>none
 |n+1=>B5x6 c (W5x6 c L n) (J5x1 c L)
theorem u5x6(n:Nat):V5x6 (xL ii5 c L [1,1,0,0,1,1,1,0,0,1,1,0,0,1,0,1,0,0] aHP (q5x7 c (cu c L)) n)=W5x6 c L n:=by
 induction n with
 |zero=>rfl
 |succ n ih=>rw[gC,s5x6];simp only[j5x1,ih];rfl
theorem w5x6:X5x6 c (cu c L)=W5x6 c L L:=u5x6 c L L
def J5x4(c:TC0)(L:Nat):Bool→Int→List G.T→G.T→Int→Rt:=B5x4 c (W5x6 c L L) (J5x1 c L)
theorem j5x4:X5x4 c (cu c L)=J5x4 c L:=by rw[X5x4,aK,s5x4];simp only[w5x6,j5x1];rfl
def J5x2(c:TC0)(L:Nat):Bool→List G.T→G.T→Int→Rt:=B5x2 c (J5x4 c L) (J5x1 c L)
theorem j5x2:X5x2 c (cu c L)=J5x2 c L:=by rw[X5x2,aK,s5x2];simp only[j5x4,j5x1];rfl
def F5(c:TC0)(L:Nat):List G.T→G.T→Rt:=B5x0 c (J5x1 c L) (J5x2 c L)
theorem e5:V5x0 (xF ii5 c (cu c L))=F5 c L:=by rw[s5x0];simp only[j5x1,j5x2];rfl
theorem c5(a0:List G.T)(a1:G.T)(L n:Nat):CTp L (n+1) 5 [yS 3 a0,yR 3 a1]=F5 (CTp L n) L a0 a1:=by rw[←e5];exact cg (x:=ii5) (by kernel_rfl) (by kernel_rfl) L n _
def q6x0(c:TC0)(e:Cu):Kt:=xK ii6
def q6x1(c:TC0)(e:Cu):Kt:=xT ii6 c e [1,1,1] (q6x0 c e)
def q6x2(c:TC0)(e:Cu):Kt:=cU U0 0 (q6x1 c e)
def q6x3(c:TC0)(e:Cu)(n1:Nt):Kt:=lpK U0 aET n1 (q6x2 c e)
def q6x4(c:TC0)(e:Cu)(n1:Nt):Kt:=xT ii6 c e [1,1,0,1,0,0,1,1] (q6x3 c e n1)
def q6x5(c:TC0)(e:Cu)(n1:Nt):Kt:=cU U0 1 (q6x4 c e n1)
def B6x0(c:TC0)(e1:List G.T→Int→Int→G.T→Rt)(a0:List G.T)(a1:G.T):Rt:=
 obL [i6] (c 27 [yR 3 a1]) fun(r0:Int×Unit)=>
 e1 a0 (0:Int) r0.1 a1
def V6x0(n:Nt):List G.T→G.T→Rt:=fun x0 x1=>n [yS 3 x0,yR 3 x1]
def B6x1(c:TC0)(k2:Int→List G.T→Int→G.T→Rt)(a0:List G.T)(a6:Int)(a5:Int)(b103:G.T):Rt:=
 cnd (decide (a6<(List.length a0:Int))) (ob (idx a0 a6) fun v0=>
 obL [i6,.bool] (c 28 [yR 3 v0,yR 3 b103]) fun(r1:Int×Bool×Unit)=>
 cnd r1.2.1 (k2 a6 a0 (IntKind.i64.wrap ((BitVec.ofInt IntKind.i64.bits a5&&&BitVec.ofInt IntKind.i64.bits r1.1).toNat:Int)) b103) (k2 a6 a0 a5 b103)) (some [yI a5])
def V6x1(n:Nt):List G.T→Int→Int→G.T→Rt:=fun x0 x1 x2 x3=>n [yS 3 x0,yI x1,yI x2,yR 3 x3]
def X6x1:=V6x1 (xE ii6 e [1,1,0,1,0,0] aET (q6x2 c e))
def B6x2(c:TC0)(k3:Int→List G.T→Int→G.T→Rt)(a6:Int)(a0:List G.T)(a5:Int)(b103:G.T):Rt:=
 ob (idx a0 a6) fun v0=>
 obL [.bool] (c 29 [yR 3 v0,yT ([110,111,116]:List UInt8),yI (1:Int)]) fun(r1:Bool×Unit)=>
 cnd r1.1 (ob (idx a0 a6) fun v2=>
 ob (idx v2.args (0:Int)) fun v3=>
 obL [i6] (c 30 [yR 3 v3,yR 3 b103]) fun(r4:Int×Unit)=>
 k3 a6 a0 (IntKind.i64.wrap ((BitVec.ofInt IntKind.i64.bits a5&&&BitVec.ofInt IntKind.i64.bits r4.1).toNat:Int)) b103) (k3 a6 a0 a5 b103)
def V6x2(n:Nt):Int→List G.T→Int→G.T→Rt:=fun x0 x1 x2 x3=>n [yI x0,yS 3 x1,yI x2,yR 3 x3]
def X6x2(n1:Nt):=V6x2 (xD ii6 e [1,1,0,1,0,0,1,0,0,1,0] ct6x2 (q6x5 c e n1))
def B6x3(c:TC0)(n1:List G.T→Int→Int→G.T→Rt)(a6:Int)(a0:List G.T)(a5:Int)(b103:G.T):Rt:=
 n1 a0 (IntKind.i64.wrap (a6+(1:Int))) a5 b103
def V6x3(n:Nt):Int→List G.T→Int→G.T→Rt:=fun x0 x1 x2 x3=>n [yI x0,yS 3 x1,yI x2,yR 3 x3]
def X6x3(n1:Nt):=V6x3 (xD ii6 e [1,1,0,1,0,0,1,1,0] ct6x3 (q6x3 c e n1))
theorem s6x0:V6x0 (xF ii6 c e)=B6x0 c (X6x1 c e):=by kernel_rfl
theorem s6x1(n1:Nt):V6x1 (xA ii6 c e [1,1,0,1,0,0] aET (lpK U0 aET n1 (q6x2 c e)))=B6x1 c (X6x2 c e n1):=by kernel_rfl
theorem s6x2(n1:Nt):V6x2 (xA ii6 c e [1,1,0,1,0,0,1,0,0,1,0] ct6x2 (q6x5 c e n1))=B6x2 c (X6x3 c e n1):=by kernel_rfl
theorem s6x3(n1:Nt):V6x3 (xA ii6 c e [1,1,0,1,0,0,1,1,0] ct6x3 (q6x3 c e n1))=B6x3 c (V6x1 n1):=by kernel_rfl
def J6x3(c:TC0)(L:Nat)(n1:List G.T→Int→Int→G.T→Rt):Int→List G.T→Int→G.T→Rt:=B6x3 c n1
theorem j6x3(n1:Nt):X6x3 c (cu c L) n1=J6x3 c L (V6x1 n1):=by rw[X6x3,aK,s6x3];rfl
def J6x2(c:TC0)(L:Nat)(n1:List G.T→Int→Int→G.T→Rt):Int→List G.T→Int→G.T→Rt:=B6x2 c (J6x3 c L n1)
theorem j6x2(n1:Nt):X6x2 c (cu c L) n1=J6x2 c L (V6x1 n1):=by rw[X6x2,aK,s6x2];simp only[j6x3];rfl
def W6x1(c:TC0)(L:Nat):Nat→List G.T→Int→Int→G.T→Rt
 |0=>fun _ _ _ _=>none
 |n+1=>B6x1 c (J6x2 c L (W6x1 c L n))
theorem u6x1(n:Nat):V6x1 (xL ii6 c L [1,1,0,1,0,0] aET (q6x2 c (cu c L)) n)=W6x1 c L n:=by
 induction n with
 |zero=>rfl
 |succ n ih=>rw[gC,s6x1];simp only[j6x2,ih];rfl
theorem w6x1:X6x1 c (cu c L)=W6x1 c L L:=u6x1 c L L
def F6(c:TC0)(L:Nat):List G.T→G.T→Rt:=B6x0 c (W6x1 c L L)
theorem e6:V6x0 (xF ii6 c (cu c L))=F6 c L:=by rw[s6x0];simp only[w6x1];rfl
theorem c6(a0:List G.T)(a1:G.T)(L n:Nat):CTp L (n+1) 6 [yS 3 a0,yR 3 a1]=F6 (CTp L n) L a0 a1:=by rw[←e6];exact cg (x:=ii6) (by kernel_rfl) (by kernel_rfl) L n _
def q9x0(c:TC0)(e:Cu):Kt:=xK ii9
def q9x1(c:TC0)(e:Cu):Kt:=xT ii9 c e [1,1,1,1] (q9x0 c e)
def q9x2(c:TC0)(e:Cu):Kt:=cU U0 0 (q9x1 c e)
def B9x0(c:TC0)(e1:List G.O→Int→List G.E→Rt):Rt:=
 obL [zS 2] (c 33 []) fun(r0:List G.O×Unit)=>
 e1 r0.1 (0:Int) ([]:List G.E)
def V9x0(n:Nt):Rt:=n []
def B9x1(c:TC0)(n1:List G.O→Int→List G.E→Rt)(a2:List G.O)(a3:Int)(a1:List G.E):Rt:=
 cnd (decide (a3<(List.length a2:Int))) (ob (idx a2 a3) fun v0=>
 obL [.rc 15] (c 34 [yS 15 a1,yR 2 v0]) fun(r1:G.E×Unit)=>
 chk (Nat.ble ((List.length a1+List.length ([r1.1]:List G.E))*568) 1073741824)<|
 n1 a2 (IntKind.i64.wrap (a3+(1:Int))) (a1++([r1.1]:List G.E))) (obL [.rc 1] (c 35 [yT ([117,115,101,114,45,112,97,99,107,97,103,101]:List UInt8)]) fun(r2:G.Y×Unit)=>
 obL [zS 1] (c 36 []) fun(r3:List G.Y×Unit)=>
 chk (Nat.ble ((List.length a1+List.length ([(G.E.mk (1:Int) r2.1 (G.A.mk ([117,115,101,114]:List UInt8) r3.1) (G.M.mk (G.Y.mk ([]:List UInt8) ([]:List UInt8)) ([]:List G.Y) false (G.T.mk (0:Int) (G.Y.mk ([]:List UInt8) ([]:List UInt8)) (G.O.mk (0:Int) ([]:List UInt8) ([]:List UInt8) (G.Y.mk ([]:List UInt8) ([]:List UInt8)) ([]:List UInt8) ([]:List G.O)) ([]:List G.T))) ([]:List G.F) ([]:List G.T) ([]:List (List G.N)) ([]:List G.E) (G.B.mk (G.Y.mk ([]:List UInt8) ([]:List UInt8)) ([]:List G.D)) ([]:List G.U) ([]:List G.Y) ([]:List G.Y) ([]:List UInt8) (0:Int))]:List G.E))*568) 1073741824)<|
 some [yS 15 (a1++([(G.E.mk (1:Int) r2.1 (G.A.mk ([117,115,101,114]:List UInt8) r3.1) (G.M.mk (G.Y.mk ([]:List UInt8) ([]:List UInt8)) ([]:List G.Y) false (G.T.mk (0:Int) (G.Y.mk ([]:List UInt8) ([]:List UInt8)) (G.O.mk (0:Int) ([]:List UInt8) ([]:List UInt8) (G.Y.mk ([]:List UInt8) ([]:List UInt8)) ([]:List UInt8) ([]:List G.O)) ([]:List G.T))) ([]:List G.F) ([]:List G.T) ([]:List (List G.N)) ([]:List G.E) (G.B.mk (G.Y.mk ([]:List UInt8) ([]:List UInt8)) ([]:List G.D)) ([]:List G.U) ([]:List G.Y) ([]:List G.Y) ([]:List UInt8) (0:Int))]:List G.E))])
def V9x1(n:Nt):List G.O→Int→List G.E→Rt:=fun x0 x1 x2=>n [yS 2 x0,yI x1,yS 15 x2]
def X9x1:=V9x1 (xE ii9 e [1,1,1,0,1,0,0] aHn (q9x2 c e))
theorem s9x0:V9x0 (xF ii9 c e)=B9x0 c (X9x1 c e):=by kernel_rfl
theorem s9x1(n1:Nt):V9x1 (xA ii9 c e [1,1,1,0,1,0,0] aHn (lpK U0 aHn n1 (q9x2 c e)))=B9x1 c (V9x1 n1):=by kernel_rfl
def aFA(c:TC0)(L:Nat):Nat→List G.O→Int→List G.E→Rt
 |0=>fun _ _ _=>none
 |n+1=>B9x1 c (aFA c L n)
theorem u9x1(n:Nat):V9x1 (xL ii9 c L [1,1,1,0,1,0,0] aHn (q9x2 c (cu c L)) n)=aFA c L n:=by
 induction n with
 |zero=>rfl
 |succ n ih=>rw[gC,s9x1];simp only[ih];rfl
theorem w9x1:X9x1 c (cu c L)=aFA c L L:=u9x1 c L L
def F9(c:TC0)(L:Nat):Rt:=B9x0 c (aFA c L L)
theorem e9:V9x0 (xF ii9 c (cu c L))=F9 c L:=by rw[s9x0];simp only[w9x1];rfl
theorem c9(L n:Nat):CTp L (n+1) 9 []=F9 (CTp L n) L:=by rw[←e9];exact cg (x:=ii9) (by kernel_rfl) (by kernel_rfl) L n _
def q13x0(c:TC0)(e:Cu):Kt:=xK ii13
def q13x1(c:TC0)(e:Cu):Kt:=xT ii13 c e [1,1] (q13x0 c e)
def B13x0(c:TC0)(k1:Bool→Int→G.Z→Rt)(a1:Int)(b0:G.Z):Rt:=
 cnd (decide ((List.length b0.b:Int)≤b0.pos)) (k1 true a1 b0) (k1 (decide (a1<(1:Int))) a1 b0)
def V13x0(n:Nt):Int→G.Z→Rt:=fun x0 x1=>n [yI x0,yR 0 x1]
def B13x1(c:TC0)(a18:Bool)(a1:Int)(b0:G.Z):Rt:=
 cnd a18 (some [yI (0:Int),yR 0 b0]) (ob (idx b0.b (IntKind.i64.wrap ((IntKind.i64.wrap (b0.pos+(1:Int)))-(1:Int)))) fun v0=>
 chk (!decide (a1=0))<|
 some [yI (Int.tmod (IntKind.i64.wrap v0) a1),yR 0 (G.Z.mk b0.b (IntKind.i64.wrap (b0.pos+(1:Int))))])
def V13x1(n:Nt):Bool→Int→G.Z→Rt:=fun x0 x1 x2=>n [yB x0,yI x1,yR 0 x2]
def X13x1:=V13x1 (xD ii13 e [1,0,1,0] aIs (q13x1 c e))
theorem s13x0:V13x0 (xF ii13 c e)=B13x0 c (X13x1 c e):=by kernel_rfl
theorem s13x1:V13x1 (xA ii13 c e [1,0,1,0] aIs (q13x1 c e))=B13x1 c:=by kernel_rfl
def J13x1(c:TC0)(L:Nat):Bool→Int→G.Z→Rt:=B13x1 c
theorem j13x1:X13x1 c (cu c L)=J13x1 c L:=by rw[X13x1,aK,s13x1];rfl
def F13(c:TC0)(L:Nat):Int→G.Z→Rt:=B13x0 c (J13x1 c L)
theorem e13:V13x0 (xF ii13 c (cu c L))=F13 c L:=by rw[s13x0];simp only[j13x1];rfl
theorem c13(a1:Int)(b0:G.Z)(L n:Nat):CTp L (n+1) 13 [yI a1,yR 0 b0]=F13 (CTp L n) L a1 b0:=by rw[←e13];exact cg (x:=ii13) (by kernel_rfl) (by kernel_rfl) L n _
def q14x0(c:TC0)(e:Cu):Kt:=xK ii14
def q14x1(c:TC0)(e:Cu):Kt:=xT ii14 c e [1,1,1] (q14x0 c e)
def q14x2(c:TC0)(e:Cu):Kt:=cU U0 0 (q14x1 c e)
def B14x0(c:TC0)(k1:Bool→Int→List G.E→Int→G.Z→G.T→G.T→Rt)(a1:List G.E)(a2:Int)(b0:G.Z):Rt:=
 obL [.rc 3,.rc 0] (c 20 [yS 15 a1,yI a2,yR 0 b0]) fun(r0:G.T×G.Z×Unit)=>
 obL [i6,.rc 0] (c 13 [yI (8:Int),yR 0 r0.2.1]) fun(r1:Int×G.Z×Unit)=>
 cnd (decide (r1.1=(0:Int))) (k1 (decide (r1.1=(0:Int))) r1.1 a1 a2 r1.2.1 r0.1 (G.T.mk (0:Int) (G.Y.mk ([]:List UInt8) ([]:List UInt8)) (G.O.mk (0:Int) ([]:List UInt8) ([]:List UInt8) (G.Y.mk ([]:List UInt8) ([]:List UInt8)) ([]:List UInt8) ([]:List G.O)) ([]:List G.T))) (k1 (decide (r1.1=(1:Int))) r1.1 a1 a2 r1.2.1 r0.1 (G.T.mk (0:Int) (G.Y.mk ([]:List UInt8) ([]:List UInt8)) (G.O.mk (0:Int) ([]:List UInt8) ([]:List UInt8) (G.Y.mk ([]:List UInt8) ([]:List UInt8)) ([]:List UInt8) ([]:List G.O)) ([]:List G.T)))
def V14x0(n:Nt):List G.E→Int→G.Z→Rt:=fun x0 x1 x2=>n [yS 15 x0,yI x1,yR 0 x2]
def B14x1(c:TC0)(a14:Bool)(a13:Int)(a1:List G.E)(a2:Int)(b0:G.Z)(b107:G.T)(b106:G.T):Rt:=
 cnd a14 (obL [.rc 3] (c 8 [yT ([110,111,116]:List UInt8),yS 3 ([b107]:List G.T)]) fun(r0:G.T×Unit)=>
 some [yR 3 r0.1,yR 0 b0]) (cnd (decide (a13=(2:Int))) (obL [.rc 3,.rc 0] (c 20 [yS 15 a1,yI (IntKind.i64.wrap (a2-(1:Int))),yR 0 b0]) fun(r1:G.T×G.Z×Unit)=>
 obL [.rc 3] (c 8 [yT ([101,113,117,97,108]:List UInt8),yS 3 ([b107,r1.1]:List G.T)]) fun(r2:G.T×Unit)=>
 obL [.rc 3] (c 8 [yT ([110,111,116]:List UInt8),yS 3 ([r2.1]:List G.T)]) fun(r3:G.T×Unit)=>
 some [yR 3 r3.1,yR 0 r1.2.1]) (cnd (decide (a13=(3:Int))) (obL [.rc 3,.rc 0] (c 15 [yR 0 b0]) fun(r4:G.T×G.Z×Unit)=>
 obL [.rc 3] (c 8 [yT ([99,111,110,115,112]:List UInt8),yS 3 ([r4.1]:List G.T)]) fun(r5:G.T×Unit)=>
 obL [.rc 3] (c 8 [yT ([110,111,116]:List UInt8),yS 3 ([r5.1]:List G.T)]) fun(r6:G.T×Unit)=>
 some [yR 3 r6.1,yR 0 r4.2.1]) (cnd (decide (a13=(4:Int))) (obL [.rc 3,.rc 0] (c 20 [yS 15 a1,yI (IntKind.i64.wrap (a2-(1:Int))),yR 0 b0]) fun(r7:G.T×G.Z×Unit)=>
 obL [.rc 3] (c 8 [yT ([101,113,117,97,108]:List UInt8),yS 3 ([b107,r7.1]:List G.T)]) fun(r8:G.T×Unit)=>
 some [yR 3 r8.1,yR 0 r7.2.1]) (cnd (decide (a13=(5:Int))) (obL [.rc 3,.rc 0] (c 15 [yR 0 b0]) fun(r9:G.T×G.Z×Unit)=>
 obL [.rc 3,.rc 0] (c 20 [yS 15 a1,yI (IntKind.i64.wrap (a2-(1:Int))),yR 0 r9.2.1]) fun(r10:G.T×G.Z×Unit)=>
 obL [.rc 3] (c 8 [yT ([60]:List UInt8),yS 3 ([r9.1,r10.1]:List G.T)]) fun(r11:G.T×Unit)=>
 obL [.rc 3] (c 8 [yT ([110,111,116]:List UInt8),yS 3 ([r11.1]:List G.T)]) fun(r12:G.T×Unit)=>
 some [yR 3 r12.1,yR 0 r10.2.1]) (some [yR 3 b107,yR 0 b0])))))
def V14x1(n:Nt):Bool→Int→List G.E→Int→G.Z→G.T→G.T→Rt:=fun x0 x1 x2 x3 x4 x5 x6=>n [yB x0,yI x1,yS 15 x2,yI x3,yR 0 x4,yR 3 x5,yR 3 x6]
def X14x1:=V14x1 (xD ii14 e [1,1,0,1,0,1,0] aIr (q14x2 c e))
theorem s14x0:V14x0 (xF ii14 c e)=B14x0 c (X14x1 c e):=by kernel_rfl
theorem s14x1:V14x1 (xA ii14 c e [1,1,0,1,0,1,0] aIr (q14x2 c e))=B14x1 c:=by kernel_rfl
def aFm(c:TC0)(L:Nat):Bool→Int→List G.E→Int→G.Z→G.T→G.T→Rt:=B14x1 c
theorem j14x1:X14x1 c (cu c L)=aFm c L:=by rw[X14x1,aK,s14x1];rfl
def F14(c:TC0)(L:Nat):List G.E→Int→G.Z→Rt:=B14x0 c (aFm c L)
theorem e14:V14x0 (xF ii14 c (cu c L))=F14 c L:=by rw[s14x0];simp only[j14x1];rfl
theorem c14(a1:List G.E)(a2:Int)(b0:G.Z)(L n:Nat):CTp L (n+1) 14 [yS 15 a1,yI a2,yR 0 b0]=F14 (CTp L n) L a1 a2 b0:=by rw[←e14];exact cg (x:=ii14) (by kernel_rfl) (by kernel_rfl) L n _
def B15x0(c:TC0)(b0:G.Z):Rt:=
 obL [i6,.rc 0] (c 13 [yI (3:Int),yR 0 b0]) fun(r0:Int×G.Z×Unit)=>
 ob (slc ([120,121,122]:List UInt8) r0.1 (List.length ([120,121,122]:List UInt8):Int)) fun v1=>
 ob (slc v1 (0:Int) (1:Int)) fun v2=>
 obL [.rc 3] (c 7 [yT v2]) fun(r3:G.T×Unit)=>
 some [yR 3 r3.1,yR 0 r0.2.1]
def V15x0(n:Nt):G.Z→Rt:=fun x0=>n [yR 0 x0]
theorem s15x0:V15x0 (xF ii15 c e)=B15x0 c:=by kernel_rfl
def F15(c:TC0)(L:Nat):G.Z→Rt:=B15x0 c
theorem e15:V15x0 (xF ii15 c (cu c L))=F15 c L:=s15x0 _ _
theorem c15(b0:G.Z)(L n:Nat):CTp L (n+1) 15 [yR 0 b0]=F15 (CTp L n) L b0:=by rw[←e15];exact cg (x:=ii15) (by kernel_rfl) (by kernel_rfl) L n _
end
end Go.TV
namespace Go.TV
open Go.AI Go.PI Go.Proofs
structure bE(s:G.Z):Prop where
 b: ∀x∈s.b,0≤x∧x<256
 p0:0≤s.pos
 p1:s.pos≤(s.b.length:Int)
 l:s.b.length≤100
def NxR(x:Rt)(a:Int):Prop:= ∃(r:Int) (s:G.Z),x=some [yI r,yR 0 s]∧0≤r∧r<a∧bE s
theorem gG{β:Type}{a:Int}{b:G.Z}{K:Int×G.Z×Unit→Option β}:obL (D:=U0.D) [.int .i64,.rc 0] (some [yI a,yR 0 b]) K=K (a,b,()):=rfl
theorem Nx_ok{s:G.Z}{a:Int}{L n:Nat}(h:bE s)(h1:1≤a):NxR (CTp L (n+1) 13 [yI a,yR 0 s]) a:=by
 rw[c13,F13,B13x0];cases e1:decide ((s.b.length:Int)≤s.pos)with
 |true=>exact⟨0,s,rfl,Int.le_refl _,by omega,h⟩
 |false=>
  have e2:decide (a<(1:Int))=false:=by simp;omega
  simp only[dfN]at e1;rw[aC,e2,J13x1,B13x1,aC];obtain⟨k,hk⟩: ∃k:Nat,s.pos=(k:Int):=⟨s.pos.toNat,by have:=h.p0;omega⟩
  have hl:=h.l;have hkl:k<s.b.length:=by omega
  have e3:s.b[k]?=some s.b[k]:=geG hkl;obtain⟨q1,q2⟩:=h.b s.b[k] (List.getElem_mem hkl);generalize s.b[k]=v at e3 q1 q2;have e4:IntKind.i64.wrap (((k+1:Nat):Int)-1)=(k:Int):=by
   rw[show((k+1:Nat):Int)-1=(k:Int) by omega];exact wrapn (by omega)
  obtain⟨m,rfl⟩: ∃m:Nat,v=(m:Int):=⟨v.toNat,by omega⟩
  rw[hk,dX (by omega),e4,aR,e3,dG,show decide (a=0)=false by simp;omega]
  simp only[Bool.not_false,wF];rw[wrapn (by omega)]
  exact⟨_,_,rfl,Int.tmod_nonneg _ q1,Int.tmod_lt_of_pos _ (by omega),⟨h.b,by show(0:Int)≤((k+1:Nat):Int);omega,by show((k+1:Nat):Int)≤(s.b.length:Int);omega,h.l⟩⟩
def fns(e:G.E):List G.F:=bif decide (e.kind=3)||decide (e.kind=5)||decide (e.kind=6)||decide (e.kind=7)then e.functions else []
theorem Fn_ok(e:G.E)(L n:Nat):CTp L (n+1) 113 [yR 15 e]=some [yS 4 (fns e)]:=by
 rw[c113];simp only[F113,aKe,aJQ,aKd,fns];generalize decide (e.kind=3)=a,decide (e.kind=5)=b,decide (e.kind=6)=d,decide (e.kind=7)=f;cases a<;>cases b<;>cases d<;>cases f<;>rfl
def PlR(E:List G.E)(x:Rt):Prop:= ∃(i k:Int) (b:Bool),x=some [yI i,yI k,yB b]∧(b=true→∃(i' k':Nat) (e:G.E),i=i'∧k=k'∧E[i']?=some e∧k'<(fns e).length)
theorem obL_fl{β:Type}{a:List G.F}{K:List G.F×Unit→Option β}:obL (D:=U0.D) [.sl (.rc 4)] (some [yS 4 a]) K=K (a,()):=rfl
theorem Pl_in{E:List G.E}{f:G.Y}{c:TC0}{L:Nat}{n1:List G.E→Int→G.Y→Rt}{i:Nat}{e:G.E}(he:E[i]?=some e)(hb:(fns e).length<1000000000)(hn:PlR E (n1 E (IntKind.i64.wrap ((i:Int)+1)) f)):
    ∀(r:List G.F) (k m:Nat),(fns e).drop k=r→r.length<m→PlR E (rY c L n1 m (fns e) (k:Int) (i:Int) E f):=by
 intro r;induction r with
 |nil=>
  intro k m h1 h2;obtain⟨m,rfl⟩: ∃m',m=m'+1:=⟨m-1,by simp at h2;omega⟩
  have e1:=bI h1;have e3:decide ((k:Int)<((fns e).length:Int))=false:=by simp;omega
  rw[rY,aEg,e3,aC];exact hn
 |cons x r ih=>
  intro k m h1 h2;obtain⟨m,rfl⟩: ∃m',m=m'+1:=⟨m-1,by simp at h2;omega⟩
  obtain⟨a1,a2,a3⟩:=bG h1;have e3:decide ((k:Int)<((fns e).length:Int))=true:=by simp;omega
  rw[rY,aEg,e3,aE,aR,a1,dG,dX (by omega)]
  cases decide (x.name=f)with
  |true=>exact⟨_,_,true,rfl,fun _=>⟨i,k,e,rfl,rfl,he,a2⟩⟩
  |false=>exact ih (k+1) m a3 (by simp at h2;omega)
theorem Pl_out{E:List G.E}{f:G.Y}{c:TC0}{L:Nat}(hb:E.length<1000000)(hf: ∀e∈E,(fns e).length<L∧(fns e).length<1000000)(hc: ∀e:G.E,c 113 [yR 15 e]=some [yS 4 (fns e)]):
    ∀(r:List G.E) (k m:Nat),E.drop k=r→r.length<m→PlR E (rZ c L m E (k:Int) f):=by
 intro r;induction r with
 |nil=>
  intro k m h1 h2;obtain⟨m,rfl⟩: ∃m',m=m'+1:=⟨m-1,by simp at h2;omega⟩
  have e1:=bI h1;have e3:decide ((k:Int)<(E.length:Int))=false:=by simp;omega
  rw[rZ,aEh,e3,aC];exact⟨0,0,false,rfl,fun h=>by cases h⟩
 |cons x r ih=>
  intro k m h1 h2;obtain⟨m,rfl⟩: ∃m',m=m'+1:=⟨m-1,by simp at h2;omega⟩
  obtain⟨a1,a2,a3⟩:=bG h1;have e3:decide ((k:Int)<(E.length:Int))=true:=by simp;omega
  rw[rZ,aEh,e3,aE,aR,a1,dG,hc,obL_fl];obtain⟨g1,g2⟩:=hf x (List.mem_of_getElem? a1);refine Pl_in a1 (by omega) ?_ (fns x) 0 L rfl g1
  rw[dX (by omega)]
  exact ih (k+1) m a3 (by simp at h2;omega)
structure WOK(E:List G.E):Prop where
 l:E.length≤1000
 f: ∀e∈E,e.functions.length≤1000
 p: ∀e∈E,∀f∈e.functions,f.params.length≤3
theorem fns_mem{e:G.E}{f:G.F}(h:f∈fns e):f∈e.functions:=by
 unfold fns at h;revert h;cases decide (e.kind=3)||decide (e.kind=5)||decide (e.kind=6)||decide (e.kind=7)with
 |true=>exact id
 |false=>intro h;cases h
theorem fns_len(e:G.E):(fns e).length≤e.functions.length:=by
 unfold fns;cases decide (e.kind=3)||decide (e.kind=5)||decide (e.kind=6)||decide (e.kind=7)with
 |true=>exact nlR _
 |false=>exact Nat.zero_le _
theorem obL_pl{β:Type}{a b:Int}{d:Bool}{K:Int×Int×Bool×Unit→Option β}:obL (D:=U0.D) [.int .i64,.int .i64,.bool] (some [yI a,yI b,yB d]) K=K (a,b,d,()):=rfl
theorem obL_fb{β:Type}{a:G.F}{d:Bool}{K:G.F×Bool×Unit→Option β}:obL (D:=U0.D) [.rc 4,.bool] (some [yR 4 a,yB d]) K=K (a,d,()):=rfl
theorem Fu_ok{E:List G.E}(hE:WOK E)(f:G.Y){L n:Nat}(hL:2000≤L): ∃(g:G.F) (b:Bool),CTp L (n+3) 84 [yS 15 E,yR 1 f]=some [yR 4 g,yB b]∧g.params.length≤3:=by
 have h94:PlR E (CTp L (n+2) 112 [yS 15 E,yR 1 f]):=by
  show PlR E (CTp L (n+1+1) 112 _);rw[c112,F112,aKf];have:=hE.l;exact Pl_out (by omega) (fun e he=>by have:=hE.f e he;have:=fns_len e;omega) (fun e=>Fn_ok e L n) E 0 L rfl (by omega)
 obtain⟨i,k,b,h94,hb⟩:=h94;show∃(g:G.F) (b:Bool),CTp L (n+2+1) 84 _=_∧_;rw[c84,F84,B84x0,h94,obL_pl];cases b with
 |false=>exact⟨_,_,rfl,Nat.zero_le _⟩
 |true=>
  obtain⟨i',k',e,rfl,rfl,h1,h2⟩:=hb rfl;have h3:(fns e)[k']?=some (fns e)[k']:=geG h2;simp only[bnT,aC];rw[aR,h1,dG,Fn_ok,obL_fl];simp only[aR,h3,dG];exact⟨_,_,rfl,hE.p e (List.mem_of_getElem? h1) _ (fns_mem (List.getElem_mem h2))⟩
theorem rows_ar:(rowsL.all fun r=>decide (0≤r.arity)&&decide (r.arity≤3))=true:=by kernel_rfl
theorem zW: ∀(l:List G.R),(l.all fun r=>decide (0≤r.arity)&&decide (r.arity≤3))=true→∀s k,kA s l=some k→0≤k∧k≤3
 |[],_,s,k,h=>by cases h
 |r::l,h,s,k,hk=>by
  simp only[alC,bjE,djE]at h;simp only[kA]at hk;split at hk
  ·simp only[ojE]at hk;subst hk;exact h.1
  ·exact zW l h.2 s k hk
def ArR(x:Rt):Prop:= ∃(k:Nat) (b:Bool),x=some [yI (k:Int),yB b]∧k≤3
theorem Ar_ok{E:List G.E}(hE:WOK E)(f:G.Y){L n:Nat}(hL:2000≤L):ArR (CTp L (n+4) 58 [yS 15 E,yR 1 f]):=by
 have h55:=aEi f L (n+1) (by omega)
 show ArR (CTp L (n+3+1) 58 _);rw[c58,F58,B58x0];show ArR (obL (D:=U0.D) [.int .i64,.bool] (CTp L (n+1+2) 68 [yR 1 f]) _);rw[h55];cases ha:arity f with
 |some k=>
  obtain⟨g1,g2⟩:0≤k∧k≤3:=by
   unfold arity at ha;split at ha
   ·exact zW rowsL rows_ar _ _ ha
   ·cases ha
  obtain⟨m,rfl⟩: ∃m:Nat,k=(m:Int):=⟨k.toNat,by omega⟩
  exact⟨m,true,rfl,by omega⟩
 |none=>
  simp only[oI];rw[eN,aC];obtain⟨g,b,h1,h2⟩:=Fu_ok (n:=n) hE f hL;rw[h1,obL_fb];cases b with
  |false=>exact⟨0,false,rfl,by omega⟩
  |true=>exact⟨g.params.length,true,rfl,h2⟩
end Go.TV
namespace Go.TV
open Go.AI Go.PI Go.Proofs
theorem cst_some{t u:Ty}{x:Den U0.D t}{y:Den U0.D u}(h:cst t u x=some y):(⟨t,x⟩:TV U0.D)=⟨u,y⟩:=by
 unfold cst at h;split at h
 ·rename_i e _;subst e;simp only[ojE]at h;subst h;rfl
 ·cases h
theorem aDx: ∀{ts:List Ty} {d:TVs} {r:DenL U0.D ts},dM ts d=some r→d=tvL ts r
 |[],[],_,_=>rfl
 |[],_::_,_,h=>by cases h
 |_::_,[],_,h=>by cases h
 |t::ts,v::d,r,h=>by
  simp only[dM]at h;split at h
  ·rename_i x q h1 h2;simp only[ojE]at h;subst h;show v::d=⟨t,x⟩::tvL ts q;rw[←aDx h2,←cst_some h1]
  ·cases h
def hx(ts:List Ty)(d:TVs)(K:DenL U0.D ts→Rt)(z:Rt):Rt:=match dM ts d with|some r=>K r|none=>z
theorem eV{ts:List Ty}{d:TVs}{K:DenL U0.D ts→Rt}{z:Rt}(h: ∀r,d=tvL ts r→K r=z):hx ts d K z=z:=by
 unfold hx;split
 ·rename_i r e;exact h r (aDx e)
 ·rfl
def Hk(i:Nat)(h:TC0→Nat→TVs→Rt→Rt)(L m:Nat)(d:TVs):Prop:=h (CTp L m) L d (CTp L (m+1) i d)=CTp L (m+1) i d
theorem evq{b:Bool}{x y z:Rt}(h1:b=true→x=z)(h2:y=z):(bif b then x else y)=z:=by cases b;exact h2;exact h1 rfl
theorem evc{b:Bool}{x y z:Rt}(h1:x=z)(h2:y=z):(bif b then x else y)=z:=by cases b;exact h2;exact h1
noncomputable def hG(i:Nat)(c:TC0)(L:Nat)(d:TVs)(z:Rt):Rt:=
 match pW insL i with
 |some x=>bif Nat.beq x.sig.f orcI.n||Nat.beq x.sig.f orcI.m then z else xF x c (cu c L) d
 |none=>z
theorem kV(i L m:Nat)(d:TVs):hG i (CTp L m) L d (CTp L (m+1) i d)=CTp L (m+1) i d:=by
 unfold hG;split
 ·rename_i x hx;cases hb:Nat.beq x.sig.f orcI.n||Nat.beq x.sig.f orcI.m with
  |true=>rfl
  |false=>exact(cg hx hb L m d).symm
 ·rfl
end Go.TV
namespace Go.TV
open Go.AI Go.PI Go.Proofs
set_option maxRecDepth 20000
def h2(c:TC0)(L:Nat)(d:TVs)(z:Rt):Rt:=hx [(.int .u32)] d (fun r=>F2 c L r.1) z
theorem g2(L m:Nat)(d:TVs):Hk 2 h2 L m d:=eV fun r e=>e▸(c2 r.1 L m).symm
def h9(c:TC0)(L:Nat)(d:TVs)(z:Rt):Rt:=hx [] d (fun _=>F9 c L) z
theorem g9(L m:Nat)(d:TVs):Hk 9 h9 L m d:=eV fun r e=>e▸(c9 L m).symm
def h18(c:TC0)(L:Nat)(d:TVs)(z:Rt):Rt:=hx [i6] d (fun r=>F18 c L r.1) z
theorem g18(L m:Nat)(d:TVs):Hk 18 h18 L m d:=eV fun r e=>e▸(c18 r.1 L m).symm
def h33(c:TC0)(L:Nat)(d:TVs)(z:Rt):Rt:=hx [] d (fun _=>F33 c L) z
theorem g33(L m:Nat)(d:TVs):Hk 33 h33 L m d:=eV fun r e=>e▸(c33 L m).symm
def h35(c:TC0)(L:Nat)(d:TVs)(z:Rt):Rt:=hx [.str] d (fun r=>F35 c L r.1) z
theorem g35(L m:Nat)(d:TVs):Hk 35 h35 L m d:=eV fun r e=>e▸(c35 r.1 L m).symm
def h55(c:TC0)(L:Nat)(d:TVs)(z:Rt):Rt:=hx [] d (fun _=>F55 c L) z
theorem g55(L m:Nat)(d:TVs):Hk 55 h55 L m d:=eV fun r e=>e▸(c55 L m).symm
def h56(c:TC0)(L:Nat)(d:TVs)(z:Rt):Rt:=hx [] d (fun _=>F56 c L) z
theorem g56(L m:Nat)(d:TVs):Hk 56 h56 L m d:=eV fun r e=>e▸(c56 L m).symm
def h58(c:TC0)(L:Nat)(d:TVs)(z:Rt):Rt:=hx [zS 15,.rc 1] d (fun r=>F58 c L r.1 r.2.1) z
theorem g58(L m:Nat)(d:TVs):Hk 58 h58 L m d:=eV fun r e=>e▸(c58 r.1 r.2.1 L m).symm
def h68(c:TC0)(L:Nat)(d:TVs)(z:Rt):Rt:=hx [.rc 1] d (fun r=>F68 c L r.1) z
theorem g68(L m:Nat)(d:TVs):Hk 68 h68 L m d:=eV fun r e=>e▸(c68 r.1 L m).symm
def h74(c:TC0)(L:Nat)(d:TVs)(z:Rt):Rt:=hx [] d (fun _=>F74 c L) z
theorem g74(L m:Nat)(d:TVs):Hk 74 h74 L m d:=eV fun r e=>e▸(c74 L m).symm
def h75(c:TC0)(L:Nat)(d:TVs)(z:Rt):Rt:=hx [] d (fun _=>F75 c L) z
theorem g75(L m:Nat)(d:TVs):Hk 75 h75 L m d:=eV fun r e=>e▸(c75 L m).symm
def h76(c:TC0)(L:Nat)(d:TVs)(z:Rt):Rt:=hx [zS 5,.str,.str] d (fun r=>F76 c L r.1 r.2.1 r.2.2.1) z
theorem g76(L m:Nat)(d:TVs):Hk 76 h76 L m d:=eV fun r e=>e▸(c76 r.1 r.2.1 r.2.2.1 L m).symm
def h84(c:TC0)(L:Nat)(d:TVs)(z:Rt):Rt:=hx [zS 15,.rc 1] d (fun r=>F84 c L r.1 r.2.1) z
theorem g84(L m:Nat)(d:TVs):Hk 84 h84 L m d:=eV fun r e=>e▸(c84 r.1 r.2.1 L m).symm
def h94(c:TC0)(L:Nat)(d:TVs)(z:Rt):Rt:=hx [] d (fun _=>F94 c L) z
theorem g94(L m:Nat)(d:TVs):Hk 94 h94 L m d:=eV fun r e=>e▸(c94 L m).symm
def h96(c:TC0)(L:Nat)(d:TVs)(z:Rt):Rt:=hx [.rc 2,.rc 2] d (fun r=>F96 c L r.1 r.2.1) z
theorem g96(L m:Nat)(d:TVs):Hk 96 h96 L m d:=eV fun r e=>e▸(c96 r.1 r.2.1 L m).symm
def h100(c:TC0)(L:Nat)(d:TVs)(z:Rt):Rt:=hx [i6,.rc 22] d (fun r=>F100 c L r.1 r.2.1) z
theorem g100(L m:Nat)(d:TVs):Hk 100 h100 L m d:=eV fun r e=>e▸(c100 r.1 r.2.1 L m).symm
def h112(c:TC0)(L:Nat)(d:TVs)(z:Rt):Rt:=hx [zS 15,.rc 1] d (fun r=>F112 c L r.1 r.2.1) z
theorem g112(L m:Nat)(d:TVs):Hk 112 h112 L m d:=eV fun r e=>e▸(c112 r.1 r.2.1 L m).symm
def h113(c:TC0)(L:Nat)(d:TVs)(z:Rt):Rt:=hx [.rc 15] d (fun r=>F113 c L r.1) z
theorem g113(L m:Nat)(d:TVs):Hk 113 h113 L m d:=eV fun r e=>e▸(c113 r.1 L m).symm
def h128(c:TC0)(L:Nat)(d:TVs)(z:Rt):Rt:=hx [i6,.rc 22] d (fun r=>F128 c L r.1 r.2.1) z
theorem g128(L m:Nat)(d:TVs):Hk 128 h128 L m d:=eV fun r e=>e▸(c128 r.1 r.2.1 L m).symm
def h129(c:TC0)(L:Nat)(d:TVs)(z:Rt):Rt:=hx [zS 5,.str,.str] d (fun r=>F129 c L r.1 r.2.1 r.2.2.1) z
theorem g129(L m:Nat)(d:TVs):Hk 129 h129 L m d:=eV fun r e=>e▸(c129 r.1 r.2.1 r.2.2.1 L m).symm
def h130(c:TC0)(L:Nat)(d:TVs)(z:Rt):Rt:=hx [.rc 2,i6] d (fun r=>F130 c L r.1 r.2.1) z
theorem g130(L m:Nat)(d:TVs):Hk 130 h130 L m d:=eV fun r e=>e▸(c130 r.1 r.2.1 L m).symm
def h136(c:TC0)(L:Nat)(d:TVs)(z:Rt):Rt:=hx [zS 15,.rc 1] d (fun r=>F136 c L r.1 r.2.1) z
theorem g136(L m:Nat)(d:TVs):Hk 136 h136 L m d:=eV fun r e=>e▸(c136 r.1 r.2.1 L m).symm
def h157(c:TC0)(L:Nat)(d:TVs)(z:Rt):Rt:=hx [.rc 21,.bool] d (fun r=>F157 c L r.1 r.2.1) z
theorem g157(L m:Nat)(d:TVs):Hk 157 h157 L m d:=eV fun r e=>e▸(c157 r.1 r.2.1 L m).symm
def h161(c:TC0)(L:Nat)(d:TVs)(z:Rt):Rt:=hx [.str] d (fun r=>F161 c L r.1) z
theorem g161(L m:Nat)(d:TVs):Hk 161 h161 L m d:=eV fun r e=>e▸(c161 r.1 L m).symm
def h164(c:TC0)(L:Nat)(d:TVs)(z:Rt):Rt:=hx [zS 5,.str] d (fun r=>F164 c L r.1 r.2.1) z
theorem g164(L m:Nat)(d:TVs):Hk 164 h164 L m d:=eV fun r e=>e▸(c164 r.1 r.2.1 L m).symm
def h181(c:TC0)(L:Nat)(d:TVs)(z:Rt):Rt:=hx [.rc 3] d (fun r=>F181 c L r.1) z
theorem g181(L m:Nat)(d:TVs):Hk 181 h181 L m d:=eV fun r e=>e▸(c181 r.1 L m).symm
def h185(c:TC0)(L:Nat)(d:TVs)(z:Rt):Rt:=hx [.str] d (fun r=>F185 c L r.1) z
theorem g185(L m:Nat)(d:TVs):Hk 185 h185 L m d:=eV fun r e=>e▸(c185 r.1 L m).symm
noncomputable def hAll(i:Nat)(c:TC0)(L:Nat)(d:TVs)(z:Rt):Rt:=(bif Nat.beq i 94 then h94 c L d z else bif Nat.blt i 94 then(bif Nat.beq i 56 then h56 c L d z else bif Nat.blt i 56 then(bif Nat.beq i 33 then h33 c L d z else bif Nat.blt i 33 then(bif Nat.beq i 9 then h9 c L d z else bif Nat.blt i 9 then(bif Nat.beq i 2 then h2 c L d z else hG i c L d z)else(bif Nat.beq i 18 then h18 c L d z else hG i c L d z))else(bif Nat.beq i 55 then h55 c L d z else bif Nat.blt i 55 then(bif Nat.beq i 35 then h35 c L d z else hG i c L d z)else hG i c L d z))else(bif Nat.beq i 75 then h75 c L d z else bif Nat.blt i 75 then(bif Nat.beq i 68 then h68 c L d z else bif Nat.blt i 68 then(bif Nat.beq i 58 then h58 c L d z else hG i c L d z)else(bif Nat.beq i 74 then h74 c L d z else hG i c L d z))else(bif Nat.beq i 84 then h84 c L d z else bif Nat.blt i 84 then(bif Nat.beq i 76 then h76 c L d z else hG i c L d z)else hG i c L d z)))else(bif Nat.beq i 130 then h130 c L d z else bif Nat.blt i 130 then(bif Nat.beq i 113 then h113 c L d z else bif Nat.blt i 113 then(bif Nat.beq i 100 then h100 c L d z else bif Nat.blt i 100 then(bif Nat.beq i 96 then h96 c L d z else hG i c L d z)else(bif Nat.beq i 112 then h112 c L d z else hG i c L d z))else(bif Nat.beq i 129 then h129 c L d z else bif Nat.blt i 129 then(bif Nat.beq i 128 then h128 c L d z else hG i c L d z)else hG i c L d z))else(bif Nat.beq i 164 then h164 c L d z else bif Nat.blt i 164 then(bif Nat.beq i 157 then h157 c L d z else bif Nat.blt i 157 then(bif Nat.beq i 136 then h136 c L d z else hG i c L d z)else(bif Nat.beq i 161 then h161 c L d z else hG i c L d z))else(bif Nat.beq i 185 then h185 c L d z else bif Nat.blt i 185 then(bif Nat.beq i 181 then h181 c L d z else hG i c L d z)else hG i c L d z))))
theorem hAll_ok(i L m:Nat)(d:TVs):hAll i (CTp L m) L d (CTp L (m+1) i d)=CTp L (m+1) i d:=(evq (fun e=>(nqE e).symm▸g94 L m d) (evc (evq (fun e=>(nqE e).symm▸g56 L m d) (evc (evq (fun e=>(nqE e).symm▸g33 L m d) (evc (evq (fun e=>(nqE e).symm▸g9 L m d) (evc (evq (fun e=>(nqE e).symm▸g2 L m d) (kV i L m d)) (evq (fun e=>(nqE e).symm▸g18 L m d) (kV i L m d)))) (evq (fun e=>(nqE e).symm▸g55 L m d) (evc (evq (fun e=>(nqE e).symm▸g35 L m d) (kV i L m d)) (kV i L m d))))) (evq (fun e=>(nqE e).symm▸g75 L m d) (evc (evq (fun e=>(nqE e).symm▸g68 L m d) (evc (evq (fun e=>(nqE e).symm▸g58 L m d) (kV i L m d)) (evq (fun e=>(nqE e).symm▸g74 L m d) (kV i L m d)))) (evq (fun e=>(nqE e).symm▸g84 L m d) (evc (evq (fun e=>(nqE e).symm▸g76 L m d) (kV i L m d)) (kV i L m d))))))) (evq (fun e=>(nqE e).symm▸g130 L m d) (evc (evq (fun e=>(nqE e).symm▸g113 L m d) (evc (evq (fun e=>(nqE e).symm▸g100 L m d) (evc (evq (fun e=>(nqE e).symm▸g96 L m d) (kV i L m d)) (evq (fun e=>(nqE e).symm▸g112 L m d) (kV i L m d)))) (evq (fun e=>(nqE e).symm▸g129 L m d) (evc (evq (fun e=>(nqE e).symm▸g128 L m d) (kV i L m d)) (kV i L m d))))) (evq (fun e=>(nqE e).symm▸g164 L m d) (evc (evq (fun e=>(nqE e).symm▸g157 L m d) (evc (evq (fun e=>(nqE e).symm▸g136 L m d) (kV i L m d)) (evq (fun e=>(nqE e).symm▸g161 L m d) (kV i L m d)))) (evq (fun e=>(nqE e).symm▸g185 L m d) (evc (evq (fun e=>(nqE e).symm▸g181 L m d) (kV i L m d)) (kV i L m d)))))))))
end Go.TV
namespace Go.TV
open Go.AI Go.PI Go.Proofs
noncomputable def evB(K:TC0)(up:Nat→TC0)(L:Nat):Nat→TC0
 |0=>up 0
 |n+1=>fun i d=>match K i d with|some r=>some r|none=>hAll i (evB K up L n) L d (up (n+1) i d)
noncomputable def upT(L N:Nat):Nat→TC0:=fun n=>CTp L (N+n)
theorem aDs{K:TC0}{L N:Nat}(hK: ∀n i d r,K i d=some r→CTp L (N+n+1) i d=some r): ∀n,evB K (upT L N) L n=CTp L (N+n)
 |0=>rfl
 |n+1=>by
  funext i d;show(match K i d with|some r=>some r|none=>hAll i (evB K (upT L N) L n) L d (CTp L (N+n+1) i d))=CTp L (N+n+1) i d
  rw[aDs hK n];split
  ·rename_i r e;exact(hK n i d r e).symm
  ·exact hAll_ok i L (N+n) d
end Go.TV
namespace Go.TV
open Go.AI Go.PI Go.Proofs
set_option maxRecDepth 20000
theorem call_o{P:Program}{T:TP U0.D}{l:List (Nat×Ins)}{i:Nat}{x:Ins}(hx:pW l i=some x)(hs:T.sig i=some x.sig)(hb:(okS T.orc x.sig&&Nat.ble x.sig.bx.length 100&&okBx x.sig.bx.length x.sig.bx)=true)(L n:Nat)(d:TVs){y:OV}(ho:orT U0 T.orc x.sig d=some y):
    zP U0 T (tabL P l) L (n+1) i d=some [ovT U0 y]:=by
 have hg:tabL P l i=some (fN x.sk (nC P x.sig.f),aEt P x.sig.f):=by simp only[tabL,hx]
 simp only[zP,hs,hg,hb,cdt,ho]
def Kf:TC0:=fun i d=>bif Nat.beq i 172 then(match orT U0 orcI ii172.sig d with|some x=>some [ovT U0 x]|none=>none)else none
noncomputable def cF(L M k:Nat):TC0:=evB Kf (upT (L+7000) M) (L+7000) k
theorem cF_ok(L M k:Nat):cF L M k=CTp (L+7000) (M+k):=aDs (fun n i d r h=>by
 unfold Kf at h;cases hb:Nat.beq i 172 with
 |false=>rw[hb]at h;cases h
 |true=>
  rw[hb,cdt]at h;split at h
  ·rename_i x hx;simp only[ojE]at h;subst h;rw[nqE hb];exact call_o (x:=ii172) (by kernel_rfl) (by kernel_rfl) (by kernel_rfl) _ _ d hx
  ·cases h) k
def userS:List UInt8:=[117,115,101,114]
def zrO:G.O:=⟨0,[],[],⟨[],[]⟩,[],[]⟩
def tV(w:List UInt8):G.T:=⟨1,⟨userS,w⟩,zrO,[]⟩
def tA(f:G.Y)(l:List G.T):G.T:=⟨3,f,zrO,l⟩
def tC(o:G.O):G.T:=⟨2,⟨[],[]⟩,o,[]⟩
def niO:G.O:=⟨2,[],[],⟨bM,[110,105,108]⟩,[],[]⟩
def cnO(a b:G.O):G.O:=⟨4,[],[],⟨[],[]⟩,[],[a,b]⟩
def ObR(x:Rt):Prop:= ∃o:G.O,x=some [yR 2 o]∧osz o+bad0 o≤20
def chO(r:Rt):Bool:=match r with|some [⟨.rc 2,o⟩]=>Nat.ble (osz o+bad0 o) 20|_=>false
theorem nA{r:Rt}(h:chO r=true):ObR r:=by
 unfold chO at h;split at h
 ·rename_i o;exact⟨o,rfl,Nat.le_of_ble_eq_true h⟩
 ·cases h
section
variable(L M:Nat)
theorem v_ok(w:List UInt8):cF L M 60 7 [yT w]=some [yR 3 (tV w)]:=by kernel_rfl
theorem l_ok(w:List UInt8)(l:List G.T):cF L M 60 8 [yT w,yS 3 l]=some [yR 3 (tA ⟨bM,w⟩ l)]:=by kernel_rfl
theorem a_ok(f:G.Y)(l:List G.T):cF L M 60 45 [yR 1 f,yS 3 l]=some [yR 3 (tA f l)]:=by kernel_rfl
theorem k_ok(o:G.O):cF L M 60 17 [yR 2 o]=some [yR 3 (tC o)]:=by kernel_rfl
theorem u_ok(w:List UInt8):cF L M 60 12 [yT w]=some [yR 1 ⟨userS,w⟩]:=by kernel_rfl
theorem s_ok(w:List UInt8):cF L M 60 57 [yT w]=some [yR 1 ⟨bM,w⟩]:=by kernel_rfl
theorem cn_ok(a b:G.O):cF L M 60 52 [yR 2 a,yR 2 b]=some [yR 2 (cnO a b)]:=by kernel_rfl
theorem li0_ok:cF L M 60 53 [yS 2 []]=some [yR 2 niO]:=by kernel_rfl
theorem li1_ok(a:G.O):cF L M 60 53 [yS 2 ([a]:List G.O)]=some [yR 2 (cnO a niO)]:=by kernel_rfl
theorem li2_ok(a b:G.O):cF L M 60 53 [yS 2 ([a,b]:List G.O)]=some [yR 2 (cnO a (cnO b niO))]:=by kernel_rfl
theorem li3_ok(a b d:G.O):cF L M 60 53 [yS 2 ([a,b,d]:List G.O)]=some [yR 2 (cnO a (cnO b (cnO d niO)))]:=by kernel_rfl
theorem ob_n:ObR (cF L M 60 46 []):=nA (by kernel_rfl)
theorem ob_t:ObR (cF L M 60 47 []):=nA (by kernel_rfl)
theorem ob_i(r:Int)(h0:0≤r)(h1:r<7):ObR (cF L M 60 48 [yI (IntKind.i64.wrap (r-3))]):=by
 obtain rfl|rfl|rfl|rfl|rfl|rfl|rfl:r=0∨r=1∨r=2∨r=3∨r=4∨r=5∨r=6:=by omega
 all_goals exact nA (by kernel_rfl)
theorem ob_0:ObR (cF L M 60 48 [yI (0:Int)]):=nA (by kernel_rfl)
theorem ob_1:ObR (cF L M 60 48 [yI (1:Int)]):=nA (by kernel_rfl)
theorem ob_q1:ObR (cF L M 60 49 [yT ([49]:List UInt8),yT ([50]:List UInt8)]):=nA (by kernel_rfl)
theorem ob_q2:ObR (cF L M 60 49 [yT ([45,53]:List UInt8),yT ([51]:List UInt8)]):=nA (by kernel_rfl)
theorem ob_s1(y:G.Y):ObR (cF L M 60 50 [yR 1 y]):=nA (by kernel_rfl)
theorem ob_x(w:List UInt8):ObR (cF L M 60 51 [yT w]):=nA (by kernel_rfl)
theorem hd_ok: ∃l:List (List UInt8),cF L M 60 55 []=some [⟨.sl .str,l⟩]∧l.length=25:=⟨match B55x0 (fun _ _=>none)with|some (⟨.sl .str,t⟩::_)=>t|_=>[],by kernel_rfl,by kernel_rfl⟩
theorem ow_ok: ∃l:List (List UInt8),cF L M 60 56 []=some [⟨.sl .str,l⟩]∧l.length=8:=⟨match B56x0 (fun _ _=>none)with|some (⟨.sl .str,t⟩::_)=>t|_=>[],by kernel_rfl,by kernel_rfl⟩
end
structure Lib(c:TC0):Prop where
 v: ∀w,c 7 [yT w]=some [yR 3 (tV w)]
 l: ∀w (l:List G.T),c 8 [yT w,yS 3 l]=some [yR 3 (tA ⟨bM,w⟩ l)]
 a: ∀(f:G.Y) (l:List G.T),c 45 [yR 1 f,yS 3 l]=some [yR 3 (tA f l)]
 k: ∀o:G.O,c 17 [yR 2 o]=some [yR 3 (tC o)]
 u: ∀w,c 12 [yT w]=some [yR 1 (⟨userS,w⟩:G.Y)]
 s: ∀w,c 57 [yT w]=some [yR 1 (⟨bM,w⟩:G.Y)]
 cn: ∀a b:G.O,c 52 [yR 2 a,yR 2 b]=some [yR 2 (cnO a b)]
 l0:c 53 [yS 2 ([]:List G.O)]=some [yR 2 niO]
 l1: ∀a:G.O,c 53 [yS 2 ([a]:List G.O)]=some [yR 2 (cnO a niO)]
 l2: ∀a b:G.O,c 53 [yS 2 ([a,b]:List G.O)]=some [yR 2 (cnO a (cnO b niO))]
 l3: ∀a b d:G.O,c 53 [yS 2 ([a,b,d]:List G.O)]=some [yR 2 (cnO a (cnO b (cnO d niO)))]
 n:ObR (c 46 [])
 t:ObR (c 47 [])
 i: ∀r:Int,0≤r→r<7→ObR (c 48 [yI (IntKind.i64.wrap (r-3))])
 i0:ObR (c 48 [yI (0:Int)])
 i1:ObR (c 48 [yI (1:Int)])
 q1:ObR (c 49 [yT ([49]:List UInt8),yT ([50]:List UInt8)])
 q2:ObR (c 49 [yT ([45,53]:List UInt8),yT ([51]:List UInt8)])
 sy: ∀y:G.Y,ObR (c 50 [yR 1 y])
 x: ∀w,ObR (c 51 [yT w])
 hd: ∃l:List (List UInt8),c 55 []=some [⟨.sl .str,l⟩]∧l.length=25
 ow: ∃l:List (List UInt8),c 56 []=some [⟨.sl .str,l⟩]∧l.length=8
 nx: ∀(s:G.Z) (a:Int),bE s→1≤a→NxR (c 13 [yI a,yR 0 s]) a
theorem lib_ok(L M:Nat):Lib (CTp (L+7000) (M+60)):=by
 have h: ∀(s:G.Z) (a:Int),bE s→1≤a→NxR (CTp (L+7000) (M+60) 13 [yI a,yR 0 s]) a:=fun s a h1 h2=>Nx_ok (n:=M+59) h1 h2
 rw[←cF_ok]at h⊢;exact⟨v_ok L M,l_ok L M,a_ok L M,k_ok L M,u_ok L M,s_ok L M,cn_ok L M,li0_ok L M,li1_ok L M,li2_ok L M,li3_ok L M,ob_n L M,ob_t L M,ob_i L M,ob_0 L M,ob_1 L M,ob_q1 L M,ob_q2 L M,ob_s1 L M,ob_x L M,hd_ok L M,ow_ok L M,h⟩
end Go.TV
namespace Go.TV
open Go.AI Go.PI Go.Proofs
set_option maxRecDepth 20000
def sh1(k:Int):Int:=IntKind.i64.wrap ((1:Int)*2^(min (Int.toNat k) IntKind.i64.bits))
def hit(s k:Int):Bool:= !decide ((IntKind.i64.wrap ((BitVec.ofInt IntKind.i64.bits s&&&BitVec.ofInt IntKind.i64.bits (sh1 k)).toNat:Int))=(0:Int))
def bor(o v:Int):Int:=IntKind.i64.wrap ((BitVec.ofInt IntKind.i64.bits o|||BitVec.ofInt IntKind.i64.bits v).toNat:Int)
def orF(c:TC0)(w:List UInt8):List (Int×Int)→Int→Option Int
 |[],o=>some o
 |(a,b)::l,o=>match c 95 [⟨.str,w⟩,⟨.int .i64,a⟩,⟨.int .i64,b⟩,⟨.int .i64,(1:Int)⟩]with
  |some [⟨.int .i64,v⟩]=>orF c w l (bor o v)
  |_=>none
theorem aGJ{c:TC0}{w:List UInt8}: ∀(l l':List (Int×Int)) (o:Int),orF c w (l++l') o=(orF c w l o).bind (orF c w l')
 |[],_,_=>rfl
 |(a,b)::l,l',o=>by
  simp only[cnA,orF];split
  ·exact aGJ l l' _
  ·rfl
theorem orF_cons{c:TC0}{w:List UInt8}{a b:Int}{l:List (Int×Int)}{o o':Int}(h:orF c w ((a,b)::l) o=some o'): ∃v:Int,c 95 [⟨.str,w⟩,⟨.int .i64,a⟩,⟨.int .i64,b⟩,⟨.int .i64,(1:Int)⟩]=some [⟨.int .i64,v⟩]∧orF c w l (bor o v)=some o':=by
 simp only[orF]at h;split at h
 ·rename_i v e;exact⟨v,e,h⟩
 ·cases h
def rowS(s i:Int):Nat→List (Int×Int)
 |0=>[]
 |r+1=>bif hit s ((10-r:Nat):Int)then(sh1 i,sh1 ((10-r:Nat):Int))::rowS s i r else rowS s i r
def lX(s:Int):Nat→List (Int×Int)
 |0=>[]
 |r+1=>rowS s ((10-r:Nat):Int) 11++lX s r
theorem hit_1{k:Nat}(h1:1≤k)(h2:k<11):hit 1 (k:Int)=false:=by
 obtain rfl|rfl|rfl|rfl|rfl|rfl|rfl|rfl|rfl|rfl:k=1∨k=2∨k=3∨k=4∨k=5∨k=6∨k=7∨k=8∨k=9∨k=10:=by omega
 all_goals decide
theorem hit_all{k:Nat}(h2:k<11):hit 2047 (k:Int)=true:=by
 obtain rfl|rfl|rfl|rfl|rfl|rfl|rfl|rfl|rfl|rfl|rfl:k=0∨k=1∨k=2∨k=3∨k=4∨k=5∨k=6∨k=7∨k=8∨k=9∨k=10:=by omega
 all_goals decide
section
variable{c:TC0}{L:Nat}{f:G.Y}{s1:Int}
theorem pj9{n8:Int→Int→Int→Int→G.Arr3Typeset→G.Y→Rt}{n7:Int→Int→Int→G.Arr3Typeset→G.Y→Rt}{n6:Int→Int→G.Arr3Typeset→G.Y→Rt}{x y z k j i o:Int}{s:G.Arr3Typeset}:pX c L n8 n7 n6 false x y z k j i o s f=n8 (IntKind.i64.wrap (k+1)) j i o s f:=by
 rw[pX,B69x9,aC,aD7,aEb]
theorem pin1{n7:Int→Int→Int→G.Arr3Typeset→G.Y→Rt}{n6:Int→Int→G.Arr3Typeset→G.Y→Rt}{j i:Nat}{o:Int}: ∀(r k m:Nat),k+r=11→1≤k→r<m→
    iX c L n7 n6 m (k:Int) (j:Int) (i:Int) o ⟨2047,s1,1⟩ f=n7 (IntKind.i64.wrap ((j:Int)+1)) (i:Int) o ⟨2047,s1,1⟩ f:=by
 intro r;induction r with
 |zero=>
  intro k m e h1 h;obtain⟨m,rfl⟩: ∃m',m=m'+1:=⟨m-1,by omega⟩
  have:k=11:=by omega
  subst this;rw[iX,aJS];rfl
 |succ r ih=>
  intro k m e h1 h;obtain⟨m,rfl⟩: ∃m',m=m'+1:=⟨m-1,by omega⟩
  have e1:decide ((k:Int)<11)=true:=by simp;omega
  have h0:=hit_1 h1 (by omega:k<11)
  rw[iX,aJS,e1,aE,show decide ((0:Int)≤(i:Int))=true from by simp,show decide ((0:Int)≤(j:Int))=true from by simp,show decide ((0:Int)≤(k:Int))=true from by simp]
  have fin: ∀x y z,pX c L (iX c L n7 n6 m) n7 n6 false x y z (k:Int) (j:Int) (i:Int) o ⟨2047,s1,1⟩ f=n7 (IntKind.i64.wrap ((j:Int)+1)) (i:Int) o ⟨2047,s1,1⟩ f:=fun x y z=>by
   rw[pj9,dX (by omega)];exact ih (k+1) m (by omega) (by omega) (by omega)
  show cnd (hit 2047 (i:Int)) (cnd (hit s1 (j:Int)) (pX c L (iX c L n7 n6 m) n7 n6 (hit 1 (k:Int)) _ _ _ (k:Int) (j:Int) (i:Int) o ⟨2047,s1,1⟩ f) (pX c L (iX c L n7 n6 m) n7 n6 false _ _ _ (k:Int) (j:Int) (i:Int) o ⟨2047,s1,1⟩ f)) (pX c L (iX c L n7 n6 m) n7 n6 false _ _ _ (k:Int) (j:Int) (i:Int) o ⟨2047,s1,1⟩ f)=_;rw[h0,fin];cases hit 2047 (i:Int)with
  |false=>rfl
  |true=>
   cases hit s1 (j:Int)with
   |false=>rfl
   |true=>rfl
theorem pin0{n7:Int→Int→Int→G.Arr3Typeset→G.Y→Rt}{n6:Int→Int→G.Arr3Typeset→G.Y→Rt}{j i m:Nat}{o:Int}(hi:i<11)(hm:12≤m):
    (hit s1 (j:Int)=false→iX c L n7 n6 m 0 (j:Int) (i:Int) o ⟨2047,s1,1⟩ f=n7 (IntKind.i64.wrap ((j:Int)+1)) (i:Int) o ⟨2047,s1,1⟩ f)∧
    (hit s1 (j:Int)=true→∀v:Int,c 95 [⟨.str,f.name⟩,⟨.int .i64,sh1 (i:Int)⟩,⟨.int .i64,sh1 (j:Int)⟩,⟨.int .i64,(1:Int)⟩]=some [⟨.int .i64,v⟩]→iX c L n7 n6 m 0 (j:Int) (i:Int) o ⟨2047,s1,1⟩ f=n7 (IntKind.i64.wrap ((j:Int)+1)) (i:Int) (bor o v) ⟨2047,s1,1⟩ f):=by
 obtain⟨m,rfl⟩: ∃m',m=m'+1:=⟨m-1,by omega⟩
 have h0:=hit_all hi;have e10:hit 1 (0:Int)=true:=by decide
 have e11:sh1 (0:Int)=1:=by decide
 have go:iX c L n7 n6 (m+1) 0 (j:Int) (i:Int) o ⟨2047,s1,1⟩ f=cnd (hit 2047 (i:Int)) (cnd (hit s1 (j:Int)) (pX c L (iX c L n7 n6 m) n7 n6 (hit 1 (0:Int)) (sh1 (i:Int)) (sh1 (j:Int)) (sh1 (0:Int)) 0 (j:Int) (i:Int) o ⟨2047,s1,1⟩ f) (pX c L (iX c L n7 n6 m) n7 n6 false (sh1 (i:Int)) (sh1 (j:Int)) (sh1 (0:Int)) 0 (j:Int) (i:Int) o ⟨2047,s1,1⟩ f)) (pX c L (iX c L n7 n6 m) n7 n6 false (sh1 (i:Int)) (sh1 (j:Int)) (sh1 (0:Int)) 0 (j:Int) (i:Int) o ⟨2047,s1,1⟩ f):=by
  rw[iX,aJS,show decide ((0:Int)<11)=true from rfl,aE,show decide ((0:Int)≤(i:Int))=true from by simp,show decide ((0:Int)≤(j:Int))=true from by simp,show decide ((0:Int)≤(0:Int))=true from rfl];rfl
 rw[e10,e11]at go;have k1: ∀o',iX c L n7 n6 m (IntKind.i64.wrap (0+1)) (j:Int) (i:Int) o' ⟨2047,s1,1⟩ f=n7 (IntKind.i64.wrap ((j:Int)+1)) (i:Int) o' ⟨2047,s1,1⟩ f:=fun o'=>pin1 10 1 m (by omega) (by omega) (by omega)
 rw[go,h0,aE];refine⟨fun e=>?_,fun e v hv=>?_⟩
 ·rw[e,aC,pj9];exact k1 o
 ·rw[e,aE,pX,B69x9,aE,hv,jE,aD7,aEb];exact k1 (bor o v)
theorem prow{n6:Int→Int→G.Arr3Typeset→G.Y→Rt}{i:Nat}(hi:i<11): ∀(r j m:Nat) (o o':Int),j+r=11→r<m→orF c f.name (rowS s1 (i:Int) r) o=some o'→
    aAe c (L+20) n6 m (j:Int) (i:Int) o ⟨2047,s1,1⟩ f=n6 (IntKind.i64.wrap ((i:Int)+1)) o' ⟨2047,s1,1⟩ f:=by
 intro r;induction r with
 |zero=>
  intro j m o o' e h ho;obtain⟨m,rfl⟩: ∃m',m=m'+1:=⟨m-1,by omega⟩
  have:j=11:=by omega
  subst this;cases ho;rw[aAe,B69x7];rfl
 |succ r ih=>
  intro j m o o' e h ho;obtain⟨m,rfl⟩: ∃m',m=m'+1:=⟨m-1,by omega⟩
  have e1:decide ((j:Int)<11)=true:=by simp;omega
  have ej:10-r=j:=by omega
  rw[rowS,ej]at ho;rw[aAe,B69x7,e1,aE];obtain⟨g1,g2⟩:=pin0 (c:=c) (L:=L+20) (f:=f) (s1:=s1) (n7:=aAe c (L+20) n6 m) (n6:=n6) (j:=j) (i:=i) (m:=L+20) (o:=o) hi (by omega)
  cases hh:hit s1 (j:Int)with
  |false=>
   rw[hh,cdf]at ho;rw[g1 hh,dX (by omega)]
   exact ih (j+1) m o o' (by omega) (by omega) ho
  |true=>
   rw[hh,cdt]at ho;obtain⟨v,k1,k2⟩:=orF_cons ho;rw[g2 hh v k1,dX (by omega)]
   exact ih (j+1) m (bor o v) o' (by omega) (by omega) k2
theorem pall: ∀(r i m:Nat) (o o':Int),i+r=11→r<m→orF c f.name (lX s1 r) o=some o'→wR c (L+20) m (i:Int) o ⟨2047,s1,1⟩ f=some [⟨.int .i64,o'⟩]:=by
 intro r;induction r with
 |zero=>
  intro i m o o' e h ho;obtain⟨m,rfl⟩: ∃m',m=m'+1:=⟨m-1,by omega⟩
  have:i=11:=by omega
  subst this;cases ho;rw[wR,B69x6];rfl
 |succ r ih=>
  intro i m o o' e h ho;obtain⟨m,rfl⟩: ∃m',m=m'+1:=⟨m-1,by omega⟩
  have e1:decide ((i:Int)<11)=true:=by simp;omega
  have ei:10-r=i:=by omega
  rw[lX,ei,aGJ]at ho;cases ho1:orF c f.name (rowS s1 (i:Int) 11) o with
  |none=>rw[ho1]at ho;cases ho
  |some o1=>
   rw[ho1]at ho;rw[wR,B69x6,e1,aE];have:=prow (c:=c) (L:=L) (f:=f) (s1:=s1) (n6:=wR c (L+20) m) (i:=i) (by omega) 11 0 (L+20) o o1 (by omega) (by omega) ho1
   rw[show((0:Nat):Int)=0 from rfl]at this
   rw[this,dX (by omega)]
   exact ih (i+1) m o1 o' (by omega) (by omega) ho
end
section
variable{c:TC0}{L m:Nat}{f:G.Y}{n x y z v:Int}{a:List Int}
theorem w4x0(hn:decide ((0:Int)<n)=true)(hv:idx a (0:Int)=some v):gV c L (m+1) n a 0 ⟨x,y,z⟩ f=gV c L m n a 1 ⟨band v 2047,y,z⟩ f:=by
 rw[gV,aCb,show decide ((0:Int)<3)=true from rfl,aE,show decide ((0:Int)=0)=true from rfl,aE,hn,aE,hv,dG,aE,aFd,aFo];rfl
theorem w4x1(hn:decide ((1:Int)<n)=true)(hv:idx a (1:Int)=some v):gV c L (m+1) n a 1 ⟨x,y,z⟩ f=gV c L m n a 2 ⟨x,band v 2047,z⟩ f:=by
 rw[gV,aCb,show decide ((1:Int)<3)=true from rfl,aE,show decide ((1:Int)=0)=false from rfl,aC,show decide ((1:Int)=1)=true from rfl,aE,hn,aE,hv,dG,aC,aE,aFd,aFo];rfl
theorem w4_1n(hn:decide ((1:Int)<n)=false):gV c L (m+1) n a 1 ⟨x,y,z⟩ f=gV c L m n a 2 ⟨x,1,z⟩ f:=by
 rw[gV,aCb,show decide ((1:Int)<3)=true from rfl,aE,show decide ((1:Int)=0)=false from rfl,aC,show decide ((1:Int)=1)=true from rfl,aE,hn,aC,aFd,aFo];rfl
theorem w4_2n(hn:decide ((2:Int)<n)=false):gV c L (m+1) n a 2 ⟨x,y,z⟩ f=gV c L m n a 3 ⟨x,y,1⟩ f:=by
 rw[gV,aCb,show decide ((2:Int)<3)=true from rfl,aE,show decide ((2:Int)=0)=false from rfl,aC,show decide ((2:Int)=1)=false from rfl,aC,show decide ((2:Int)=2)=true from rfl,aE,hn,aC,aFd,aFo];rfl
theorem w4x3:gV c L (m+1) n a 3 ⟨x,y,z⟩ f=wR c L L 0 0 ⟨x,y,z⟩ f:=by
 rw[gV,aCb,show decide ((3:Int)<3)=false from rfl,aC]
theorem pj1{w:List UInt8}(hn: ¬w=[110,111,116])(hl:n=(a.length:Int)):aFe c L (decide (w=[110,111,116])) true n a f=gV c L L n a 0 ⟨0,0,0⟩ f:=by
 rw[decide_eq_false hn,aFe,B69x1,aC,J69x2,B69x2,bnT,aC,decide_eq_true hl,bnT,J69x3,B69x3,aC]
end
theorem prm1_ok{c:TC0}{L:Nat}{w:List UInt8}{o:Int}(hA:c 68 [⟨.rc 1,(⟨bM,w⟩:G.Y)⟩]=some [⟨.int .i64,(1:Int)⟩,⟨.bool,true⟩])(hn: ¬w=[110,111,116])(h:orF c w (lX 1 11) 0=some o):F69 c (L+20) ⟨bM,w⟩ (mB (2047:Int) 1)=some [⟨.int .i64,o⟩]:=by
 have h6:=pall (f:=⟨bM,w⟩) (s1:=1) (L:=L) 11 0 (L+20) 0 o (by omega) (by omega) h
 have hb:band 2047 2047=2047:=by decide
 have e1:gV c (L+20) (L+20) 1 (mB (2047:Int) 1) 0 ⟨0,0,0⟩ ⟨bM,w⟩=some [⟨.int .i64,o⟩]:=by
  rw[w4x0 (m:=L+19) (v:=2047) rfl rfl,hb,w4_1n (m:=L+18) rfl,w4_2n (m:=L+17) rfl,w4x3 (m:=L+16)];exact h6
 rw[F69,B69x0,hA,eN];show cnd (decide (bM=[108,105,115,112])) (aFe c (L+20) (decide (w=[110,111,116])) true 1 (mB (2047:Int) 1) ⟨bM,w⟩) _=_;rw[show decide (bM=[108,105,115,112])=true from rfl,aE,pj1 (n:=1) (a:=mB (2047:Int) 1) hn rfl]
 exact e1
theorem prm2_ok{c:TC0}{L:Nat}{w:List UInt8}{o:Int}(hA:c 68 [⟨.rc 1,(⟨bM,w⟩:G.Y)⟩]=some [⟨.int .i64,(2:Int)⟩,⟨.bool,true⟩])(hn: ¬w=[110,111,116])(h:orF c w (lX 2047 11) 0=some o):F69 c (L+20) ⟨bM,w⟩ (mB (2047:Int) 2)=some [⟨.int .i64,o⟩]:=by
 have h6:=pall (f:=⟨bM,w⟩) (s1:=2047) (L:=L) 11 0 (L+20) 0 o (by omega) (by omega) h
 have hb:band 2047 2047=2047:=by decide
 have e1:gV c (L+20) (L+20) 2 (mB (2047:Int) 2) 0 ⟨0,0,0⟩ ⟨bM,w⟩=some [⟨.int .i64,o⟩]:=by
  rw[w4x0 (m:=L+19) (v:=2047) rfl rfl,hb,w4x1 (m:=L+18) (v:=2047) rfl rfl,hb,w4_2n (m:=L+17) rfl,w4x3 (m:=L+16)];exact h6
 rw[F69,B69x0,hA,eN];show cnd (decide (bM=[108,105,115,112])) (aFe c (L+20) (decide (w=[110,111,116])) true 2 (mB (2047:Int) 2) ⟨bM,w⟩) _=_;rw[show decide (bM=[108,105,115,112])=true from rfl,aE,pj1 (n:=2) (a:=mB (2047:Int) 2) hn rfl]
 exact e1
def chP(r:Rt)(o:Option Int):Bool:=match r,o with
 |some [⟨.int .i64,a⟩],some b=>decide (a=b)&&decide (band a 2047=a)
 |_,_=>false
def PrQ(r:Rt)(o:Option Int):Prop:= ∃v:Int,r=some [⟨.int .i64,v⟩]∧o=some v∧band v 2047=v
theorem dB{r:Rt}{o:Option Int}(h:chP r o=true):PrQ r o:=by
 unfold chP at h;split at h
 ·rename_i a b;simp only[bjE,djE]at h;obtain⟨rfl,h⟩:=h;exact⟨_,rfl,rfl,h⟩
 ·cases h
def PrR(r r':Rt):Prop:= ∃v:Int,r=some [⟨.int .i64,v⟩]∧r'=some [⟨.int .i64,v⟩]∧band v 2047=v
def prA(w:List UInt8)(n:Nat):TVs:=[⟨.rc 1,(⟨bM,w⟩:G.Y)⟩,⟨.sl (.int .i64),mB (2047:Int) n⟩]
end Go.TV
