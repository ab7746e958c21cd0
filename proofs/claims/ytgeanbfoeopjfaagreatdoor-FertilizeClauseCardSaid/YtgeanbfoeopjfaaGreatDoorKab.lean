import Derived.Test.YtgeanbfoeopjfaaGreatDoorKo
import Derived.Test.YtgeanbfoeopjfaaGreatDoorKaa
import Derived.Test.YtgeanbfoeopjfaaGreatDoorKz
import Derived.Test.YtgeanbfoeopjfaaGreatDoorKy
set_option linter.unusedVariables false
set_option linter.unusedSimpArgs false
set_option linter.constructorNameAsVariable false
namespace Go.TV
open Go.AI Go.PI Go.Proofs
set_option maxRecDepth 20000
noncomputable section
variable(c:TC0)(e:Cu)(L:Nat)
def q0x0(c:TC0)(e:Cu):Kt:=xK ii0
def q0x1(c:TC0)(e:Cu):Kt:=xT ii0 c e [1,1,1,1,1,1] (q0x0 c e)
def q0x2(c:TC0)(e:Cu):Kt:=cH U0 0 (q0x1 c e)
def q0x3(c:TC0)(e:Cu)(n1:Nt):Kt:=lpK U0 aEA n1 (q0x2 c e)
def q0x4(c:TC0)(e:Cu)(n1:Nt):Kt:=xT ii0 c e [1,1,1,1,1,0,1,0,0,1,1] (q0x3 c e n1)
def q0x5(c:TC0)(e:Cu)(n1:Nt):Kt:=cH U0 1 (q0x4 c e n1)
def q0x6(c:TC0)(e:Cu)(n1:Nt):Kt:=cH U0 2 (q0x5 c e n1)
def q0x7(c:TC0)(e:Cu)(n2:Nt)(n1:Nt):Kt:=lpK U0 aEz n2 (q0x6 c e n1)
def q0x8(c:TC0)(e:Cu)(n2:Nt)(n1:Nt):Kt:=xT ii0 c e [1,1,1,1,1,0,1,0,0,1,0,0,1,0,0,1,1,1] (q0x7 c e n2 n1)
def q0x9(c:TC0)(e:Cu)(n2:Nt)(n1:Nt):Kt:=cH U0 3 (q0x8 c e n2 n1)
def B0x0(c:TC0)(e1:Int→List G.T→Int→Rt)(a0:List Int)(a1:Int):Rt:=
 obL [.bool] (c 1 []) fun(r0:Bool×Unit)=>
 cnd (!r0.1) (some [yB false]) (cnd (decide ((80:Int)<(List.length a0:Int))) (some [yB true]) (obL [zS 15] (c 2 [⟨(.int .u32),(0:Int)⟩]) fun(r1:List G.E×Unit)=>
 obL [zS 3,.rc 0] (c 3 [yS 15 r1.1,yR 0 (G.Z.mk a0 (0:Int))]) fun(r2:List G.T×G.Z×Unit)=>
 e1 (-1:Int) r2.1 a1))
def V0x0(n:Nt):List Int→Int→Rt:=fun x0 x1=>n [⟨(.sl (.int .u8)),x0⟩,yI x1]
def B0x1(c:TC0)(e2:Int→List Bool→Int→Int→List G.T→Int→Rt)(k3:Bool→Rt)(a7:Int)(a6:List G.T)(a1:Int):Rt:=
 cnd (decide (a7≤(List.length a6:Int))) (e2 (List.length ([false,true]:List Bool):Int) ([false,true]:List Bool) (0:Int) a7 a6 a1) (obL [zS 3,.bool] (c 4 [yS 3 a6,yI a1,yB true]) fun(r0:List G.T×Bool×Unit)=>
 obL [zS 3,.bool] (c 5 [yS 3 a6,yI a1,yB true]) fun(r1:List G.T×Bool×Unit)=>
 cnd (r0.2.1==r1.2.1) (obL [.bool] (c 6 [yS 3 r0.1,yS 3 r1.1]) fun(r2:Bool×Unit)=>
 k3 r2.1) (k3 false))
def V0x1(n:Nt):Int→List G.T→Int→Rt:=fun x0 x1 x2=>n [yI x0,yS 3 x1,yI x2]
def X0x1:=V0x1 (xE ii0 e [1,1,1,1,1,0,1,0,0] aEA (q0x2 c e))
def B0x2(c:TC0)(k4:Bool→Int→Int→List Bool→Int→List G.T→Int→Rt)(n1:Int→List G.T→Int→Rt)(a36:Int)(a35:List Bool)(a37:Int)(a7:Int)(a6:List G.T)(a1:Int):Rt:=
 cnd (decide (a37<a36)) (ob (idx a35 a37) fun v0=>
 obL [zS 3,.bool] (c 4 [yS 3 a6,yI a7,yB v0]) fun(r1:List G.T×Bool×Unit)=>
 obL [zS 3,.bool] (c 5 [yS 3 a6,yI a7,yB v0]) fun(r2:List G.T×Bool×Unit)=>
 cnd (!(r1.2.1==r2.2.1)) (k4 true a37 a36 a35 a7 a6 a1) (obL [.bool] (c 6 [yS 3 r1.1,yS 3 r2.1]) fun(r3:Bool×Unit)=>
 k4 (!r3.1) a37 a36 a35 a7 a6 a1)) (n1 (IntKind.i64.wrap (a7+(1:Int))) a6 a1)
def V0x2(n:Nt):Int→List Bool→Int→Int→List G.T→Int→Rt:=fun x0 x1 x2 x3 x4 x5=>n [yI x0,⟨(.sl .bool),x1⟩,yI x2,yI x3,yS 3 x4,yI x5]
def X0x2(n1:Nt):=V0x2 (xE ii0 e [1,1,1,1,1,0,1,0,0,1,0,0,1,0,0] aEz (q0x6 c e n1))
def B0x3(c:TC0)(a4:Bool):Rt:=
 some [yB a4]
def V0x3(n:Nt):Bool→Rt:=fun x0=>n [yB x0]
def X0x3:=V0x3 (xD ii0 e [1,1,1,1,1,1,1,1,1,0] ct0x3 (q0x0 c e))
def B0x4(c:TC0)(n2:Int→List Bool→Int→Int→List G.T→Int→Rt)(a63:Bool)(a37:Int)(a36:Int)(a35:List Bool)(a7:Int)(a6:List G.T)(a1:Int):Rt:=
 cnd a63 (some [yB false]) (n2 a36 a35 (IntKind.i64.wrap (a37+(1:Int))) a7 a6 a1)
def V0x4(n:Nt):Bool→Int→Int→List Bool→Int→List G.T→Int→Rt:=fun x0 x1 x2 x3 x4 x5 x6=>n [yB x0,yI x1,yI x2,⟨(.sl .bool),x3⟩,yI x4,yS 3 x5,yI x6]
def X0x4(n2:Nt)(n1:Nt):=V0x4 (xD ii0 e [1,1,1,1,1,0,1,0,0,1,0,0,1,0,0,1,1,0,0,1,1,1,1,0] ct0x4 (q0x9 c e n2 n1))
theorem s0x0:V0x0 (xF ii0 c e)=B0x0 c (X0x1 c e):=by kernel_rfl
theorem s0x1(n1:Nt):V0x1 (xA ii0 c e [1,1,1,1,1,0,1,0,0] aEA (lpK U0 aEA n1 (q0x2 c e)))=B0x1 c (X0x2 c e n1) (X0x3 c e):=by kernel_rfl
theorem s0x2(n2:Nt)(n1:Nt):V0x2 (xA ii0 c e [1,1,1,1,1,0,1,0,0,1,0,0,1,0,0] aEz (lpK U0 aEz n2 (q0x6 c e n1)))=B0x2 c (X0x4 c e n2 n1) (V0x1 n1):=by kernel_rfl
theorem s0x3:V0x3 (xA ii0 c e [1,1,1,1,1,1,1,1,1,0] ct0x3 (q0x0 c e))=B0x3 c:=by kernel_rfl
theorem s0x4(n2:Nt)(n1:Nt):V0x4 (xA ii0 c e [1,1,1,1,1,0,1,0,0,1,0,0,1,0,0,1,1,0,0,1,1,1,1,0] ct0x4 (q0x9 c e n2 n1))=B0x4 c (V0x2 n2):=by kernel_rfl
def J0x3(c:TC0)(L:Nat):Bool→Rt:=B0x3 c
theorem j0x3:X0x3 c (cu c L)=J0x3 c L:=by rw[X0x3,aL,s0x3];rfl
def J0x4(c:TC0)(L:Nat)(n2:Int→List Bool→Int→Int→List G.T→Int→Rt)(n1:Int→List G.T→Int→Rt):Bool→Int→Int→List Bool→Int→List G.T→Int→Rt:=B0x4 c n2
theorem j0x4(n2:Nt)(n1:Nt):X0x4 c (cu c L) n2 n1=J0x4 c L (V0x2 n2) (V0x1 n1):=by rw[X0x4,aL,s0x4];rfl
def W0x2(c:TC0)(L:Nat)(n1:Int→List G.T→Int→Rt):Nat→Int→List Bool→Int→Int→List G.T→Int→Rt
 |0=>fun _ _ _ _ _ _=>none
 |n+1=>B0x2 c (J0x4 c L (W0x2 c L n1 n) n1) n1
theorem u0x2(n1:Nt)(n:Nat):V0x2 (xL ii0 c L [1,1,1,1,1,0,1,0,0,1,0,0,1,0,0] aEz (q0x6 c (cu c L) n1) n)=W0x2 c L (V0x1 n1) n:=by
 induction n with
 |zero=>rfl
 |succ n ih=>rw[fA,s0x2];simp only[j0x4,ih];rfl
theorem w0x2(n1:Nt):X0x2 c (cu c L) n1=W0x2 c L (V0x1 n1) L:=u0x2 c L n1 L
def W0x1(c:TC0)(L:Nat):Nat→Int→List G.T→Int→Rt
 |0=>fun _ _ _=>none
 |n+1=>B0x1 c (W0x2 c L (W0x1 c L n) L) (J0x3 c L)
theorem u0x1(n:Nat):V0x1 (xL ii0 c L [1,1,1,1,1,0,1,0,0] aEA (q0x2 c (cu c L)) n)=W0x1 c L n:=by
 induction n with
 |zero=>rfl
 |succ n ih=>rw[fA,s0x1];simp only[w0x2,j0x3,ih];rfl
theorem w0x1:X0x1 c (cu c L)=W0x1 c L L:=u0x1 c L L
def F0(c:TC0)(L:Nat):List Int→Int→Rt:=B0x0 c (W0x1 c L L)
theorem e0:V0x0 (xF ii0 c (cu c L))=F0 c L:=by rw[s0x0];simp only[w0x1];rfl
theorem c0(a0:List Int)(a1:Int)(L n:Nat):CTp L (n+1) 0 [⟨(.sl (.int .u8)),a0⟩,yI a1]=F0 (CTp L n) L a0 a1:=by rw[←e0];exact cg (x:=ii0) (by kernel_rfl) (by kernel_rfl) L n _
def q2x0(c:TC0)(e:Cu):Kt:=xK ii2
def q2x1(c:TC0)(e:Cu):Kt:=xT ii2 c e [1,1,1,1] (q2x0 c e)
def q2x2(c:TC0)(e:Cu):Kt:=cH U0 0 (q2x1 c e)
def q2x3(c:TC0)(e:Cu):Kt:=xT ii2 c e [1,1,1,1,1,1] (q2x0 c e)
def q2x4(c:TC0)(e:Cu):Kt:=cH U0 2 (q2x3 c e)
def q2x5(c:TC0)(e:Cu)(n2:Nt):Kt:=lpK U0 aEy n2 (q2x4 c e)
def B2x0(c:TC0)(e1:(List (List G.F))→Int→Int→List G.E→Rt)(a0:Int):Rt:=
 obL [zS 15] (c 10 []) fun(r0:List G.E×Unit)=>
 obL [.sl (zS 4)] (c 11 []) fun(r1:(List (List G.F))×Unit)=>
 e1 r1.1 (0:Int) a0 r0.1
def V2x0(n:Nt):Int→Rt:=fun x0=>n [⟨(.int .u32),x0⟩]
def B2x1(c:TC0)(n1:(List (List G.F))→Int→Int→List G.E→Rt)(e2:Int→List G.L→Int→List G.E→Rt)(a4:(List (List G.F)))(a5:Int)(a0:Int)(a3:List G.E):Rt:=
 cnd (decide (a5<(List.length a4:Int))) (ob (idx a4 a5) fun v0=>
 ob (idx v0 (0:Int)) fun v1=>
 ob (idx a4 a5) fun v2=>
 chk (Nat.ble ((List.length a3+List.length ([(G.E.mk (3:Int) v1.name (G.A.mk ([]:List UInt8) ([]:List G.Y)) (G.M.mk (G.Y.mk ([]:List UInt8) ([]:List UInt8)) ([]:List G.Y) false (G.T.mk (0:Int) (G.Y.mk ([]:List UInt8) ([]:List UInt8)) (G.O.mk (0:Int) ([]:List UInt8) ([]:List UInt8) (G.Y.mk ([]:List UInt8) ([]:List UInt8)) ([]:List UInt8) ([]:List G.O)) ([]:List G.T))) v2 ([]:List G.T) ([]:List (List G.N)) ([]:List G.E) (G.B.mk (G.Y.mk ([]:List UInt8) ([]:List UInt8)) ([]:List G.D)) ([]:List G.U) ([]:List G.Y) ([]:List G.Y) ([]:List UInt8) (0:Int))]:List G.E))*568) 1073741824)<|
 n1 a4 (IntKind.i64.wrap (a5+(1:Int))) a0 (a3++([(G.E.mk (3:Int) v1.name (G.A.mk ([]:List UInt8) ([]:List G.Y)) (G.M.mk (G.Y.mk ([]:List UInt8) ([]:List UInt8)) ([]:List G.Y) false (G.T.mk (0:Int) (G.Y.mk ([]:List UInt8) ([]:List UInt8)) (G.O.mk (0:Int) ([]:List UInt8) ([]:List UInt8) (G.Y.mk ([]:List UInt8) ([]:List UInt8)) ([]:List UInt8) ([]:List G.O)) ([]:List G.T))) v2 ([]:List G.T) ([]:List (List G.N)) ([]:List G.E) (G.B.mk (G.Y.mk ([]:List UInt8) ([]:List UInt8)) ([]:List G.D)) ([]:List G.U) ([]:List G.Y) ([]:List G.Y) ([]:List UInt8) (0:Int))]:List G.E))) (obL [zS 16] (c 12 []) fun(r3:List G.L×Unit)=>
 e2 a0 r3.1 (0:Int) a3)
def V2x1(n:Nt):(List (List G.F))→Int→Int→List G.E→Rt:=fun x0 x1 x2 x3=>n [⟨.sl (zS 4),x0⟩,yI x1,⟨(.int .u32),x2⟩,yS 15 x3]
def X2x1:=V2x1 (xE ii2 e [1,1,1,0,1,0,0] aHq (q2x2 c e))
def B2x2(c:TC0)(k3:Int→Int→List G.L→List G.E→Rt)(a0:Int)(a6:List G.L)(a7:Int)(a3:List G.E):Rt:=
 cnd (decide (a7<(List.length a6:Int))) (chk (decide (0≤a7))<|
 cnd (decide ((IntKind.u32.wrap ((BitVec.ofInt IntKind.u32.bits (Int.fdiv a0 (2^(min (Int.toNat a7) IntKind.u32.bits)))&&&BitVec.ofInt IntKind.u32.bits (1:Int)).toNat:Int))=(0:Int))) (k3 a7 a0 a6 a3) (ob (idx a6 a7) fun v0=>
 ob (idx a6 a7) fun v1=>
 obL [.rc 1] (c 13 [yT v0.name]) fun(r2:G.Y×Unit)=>
 ob (idx a6 a7) fun v3=>
 ob (idx a6 a7) fun v4=>
 none)) (some [yS 15 a3])
def V2x2(n:Nt):Int→List G.L→Int→List G.E→Rt:=fun x0 x1 x2 x3=>n [⟨(.int .u32),x0⟩,yS 16 x1,yI x2,yS 15 x3]
def X2x2:=V2x2 (xE ii2 e [1,1,1,1,1,0,1,0,0] aEy (q2x4 c e))
def B2x3(c:TC0)(n2:Int→List G.L→Int→List G.E→Rt)(a7:Int)(a0:Int)(a6:List G.L)(a3:List G.E):Rt:=
 n2 a0 a6 (IntKind.i64.wrap (a7+(1:Int))) a3
def V2x3(n:Nt):Int→Int→List G.L→List G.E→Rt:=fun x0 x1 x2 x3=>n [yI x0,⟨(.int .u32),x1⟩,yS 16 x2,yS 15 x3]
def X2x3(n2:Nt):=V2x3 (xD ii2 e [1,1,1,1,1,0,1,0,0,1,1,0] ct2x3 (q2x5 c e n2))
theorem s2x0:V2x0 (xF ii2 c e)=B2x0 c (X2x1 c e):=by kernel_rfl
theorem s2x1(n1:Nt):V2x1 (xA ii2 c e [1,1,1,0,1,0,0] aHq (lpK U0 aHq n1 (q2x2 c e)))=B2x1 c (V2x1 n1) (X2x2 c e):=by kernel_rfl
theorem s2x2(n2:Nt):V2x2 (xA ii2 c e [1,1,1,1,1,0,1,0,0] aEy (lpK U0 aEy n2 (q2x4 c e)))=B2x2 c (X2x3 c e n2):=by kernel_rfl
theorem s2x3(n2:Nt):V2x3 (xA ii2 c e [1,1,1,1,1,0,1,0,0,1,1,0] ct2x3 (q2x5 c e n2))=B2x3 c (V2x2 n2):=by kernel_rfl
def J2x3(c:TC0)(L:Nat)(n2:Int→List G.L→Int→List G.E→Rt):Int→Int→List G.L→List G.E→Rt:=B2x3 c n2
theorem j2x3(n2:Nt):X2x3 c (cu c L) n2=J2x3 c L (V2x2 n2):=by rw[X2x3,aL,s2x3];rfl
def W2x2(c:TC0)(L:Nat):Nat→Int→List G.L→Int→List G.E→Rt
 |0=>fun _ _ _ _=>none
 |n+1=>B2x2 c (J2x3 c L (W2x2 c L n))
theorem u2x2(n:Nat):V2x2 (xL ii2 c L [1,1,1,1,1,0,1,0,0] aEy (q2x4 c (cu c L)) n)=W2x2 c L n:=by
 induction n with
 |zero=>rfl
 |succ n ih=>rw[fA,s2x2];simp only[j2x3,ih];rfl
theorem w2x2:X2x2 c (cu c L)=W2x2 c L L:=u2x2 c L L
def W2x1(c:TC0)(L:Nat):Nat→(List (List G.F))→Int→Int→List G.E→Rt
 |0=>fun _ _ _ _=>none
 |n+1=>B2x1 c (W2x1 c L n) (W2x2 c L L)
theorem u2x1(n:Nat):V2x1 (xL ii2 c L [1,1,1,0,1,0,0] aHq (q2x2 c (cu c L)) n)=W2x1 c L n:=by
 induction n with
 |zero=>rfl
 |succ n ih=>rw[fA,s2x1];simp only[w2x2,ih];rfl
theorem w2x1:X2x1 c (cu c L)=W2x1 c L L:=u2x1 c L L
def F2(c:TC0)(L:Nat):Int→Rt:=B2x0 c (W2x1 c L L)
theorem e2:V2x0 (xF ii2 c (cu c L))=F2 c L:=by rw[s2x0];simp only[w2x1];rfl
theorem c2(a0:Int)(L n:Nat):CTp L (n+1) 2 [⟨(.int .u32),a0⟩]=F2 (CTp L n) L a0:=by rw[←e2];exact cg (x:=ii2) (by kernel_rfl) (by kernel_rfl) L n _
def q3x0(c:TC0)(e:Cu):Kt:=xK ii3
def q3x1(c:TC0)(e:Cu):Kt:=xT ii3 c e [1,1,1,1,1] (q3x0 c e)
def q3x2(c:TC0)(e:Cu):Kt:=cH U0 0 (q3x1 c e)
def q3x3(c:TC0)(e:Cu)(n1:Nt):Kt:=lpK U0 aEx n1 (q3x2 c e)
def q3x4(c:TC0)(e:Cu)(n1:Nt):Kt:=xT ii3 c e [1,1,1,1,0,1,0,0,1,1] (q3x3 c e n1)
def q3x5(c:TC0)(e:Cu)(n1:Nt):Kt:=cH U0 1 (q3x4 c e n1)
def B3x0(c:TC0)(e1:Int→List G.E→Int→List G.T→G.Z→G.T→G.T→Rt)(a1:List G.E)(b0:G.Z):Rt:=
 obL [.rc 3,.rc 0] (c 14 [yS 15 a1,yI (2:Int),yR 0 b0]) fun(r0:G.T×G.Z×Unit)=>
 obL [.rc 3,.rc 0] (c 14 [yS 15 a1,yI (2:Int),yR 0 r0.2.1]) fun(r1:G.T×G.Z×Unit)=>
 obL [zS 3,.rc 0] (c 15 [yS 15 a1,yI (3:Int),yI (2:Int),yR 0 r1.2.1]) fun(r2:List G.T×G.Z×Unit)=>
 obL [i6,.rc 0] (c 16 [yI (4:Int),yR 0 r2.2.1]) fun(r3:Int×G.Z×Unit)=>
 e1 r3.1 a1 (0:Int) r2.1 r3.2.1 r0.1 r1.1
def V3x0(n:Nt):List G.E→G.Z→Rt:=fun x0 x1=>n [yS 15 x0,yR 0 x1]
def B3x1(c:TC0)(k2:List G.T→Int→Int→List G.E→G.Z→G.T→G.T→G.T→Rt)(a8:Int)(a1:List G.E)(a9:Int)(a7:List G.T)(b0:G.Z)(b105:G.T)(b106:G.T):Rt:=
 cnd (decide (a9<a8)) (obL [.rc 3] (c 8 [yT ([101,113,117,97,108]:List UInt8),yS 3 ([b105,b106]:List G.T)]) fun(r0:G.T×Unit)=>
 obL [.rc 3] (c 8 [yT ([110,111,116]:List UInt8),yS 3 ([r0.1]:List G.T)]) fun(r1:G.T×Unit)=>
 obL [i6,.rc 0] (c 16 [yI (5:Int),yR 0 b0]) fun(r2:Int×G.Z×Unit)=>
 cnd (decide (r2.1=(0:Int))) (obL [.rc 3,.rc 0] (c 17 [yR 0 r2.2.1]) fun(r3:G.T×G.Z×Unit)=>
 obL [.rc 3] (c 8 [yT ([99,111,110,115]:List UInt8),yS 3 ([b105,r3.1]:List G.T)]) fun(r4:G.T×Unit)=>
 obL [.rc 3,.rc 0] (c 14 [yS 15 a1,yI (1:Int),yR 0 r3.2.1]) fun(r5:G.T×G.Z×Unit)=>
 obL [.rc 3] (c 8 [yT ([101,113,117,97,108]:List UInt8),yS 3 ([r4.1,r5.1]:List G.T)]) fun(r6:G.T×Unit)=>
 k2 a7 a9 a8 a1 r5.2.1 r6.1 b105 b106) (cnd (decide (r2.1=(1:Int))) (obL [.rc 3] (c 8 [yT ([99,111,110,115,112]:List UInt8),yS 3 ([b106]:List G.T)]) fun(r7:G.T×Unit)=>
 k2 a7 a9 a8 a1 r2.2.1 r7.1 b105 b106) (cnd (decide (r2.1=(2:Int))) (obL [.rc 3,.rc 0] (c 14 [yS 15 a1,yI (1:Int),yR 0 r2.2.1]) fun(r8:G.T×G.Z×Unit)=>
 obL [.rc 3] (c 8 [yT ([101,113,117,97,108]:List UInt8),yS 3 ([b106,r8.1]:List G.T)]) fun(r9:G.T×Unit)=>
 obL [.rc 3] (c 8 [yT ([110,111,116]:List UInt8),yS 3 ([r9.1]:List G.T)]) fun(r10:G.T×Unit)=>
 k2 a7 a9 a8 a1 r8.2.1 r10.1 b105 b106) (k2 a7 a9 a8 a1 r2.2.1 r1.1 b105 b106)))) (some [yS 3 a7,yR 0 b0])
def V3x1(n:Nt):Int→List G.E→Int→List G.T→G.Z→G.T→G.T→Rt:=fun x0 x1 x2 x3 x4 x5 x6=>n [yI x0,yS 15 x1,yI x2,yS 3 x3,yR 0 x4,yR 3 x5,yR 3 x6]
def X3x1:=V3x1 (xE ii3 e [1,1,1,1,0,1,0,0] aEx (q3x2 c e))
def B3x2(c:TC0)(n1:Int→List G.E→Int→List G.T→G.Z→G.T→G.T→Rt)(a7:List G.T)(a9:Int)(a8:Int)(a1:List G.E)(b0:G.Z)(b110:G.T)(b105:G.T)(b106:G.T):Rt:=
 obL [zS 3] (c 18 [yS 3 a7,yS 3 ([b110]:List G.T)]) fun(r0:List G.T×Unit)=>
 n1 a8 a1 (IntKind.i64.wrap (a9+(1:Int))) r0.1 b0 b105 b106
def V3x2(n:Nt):List G.T→Int→Int→List G.E→G.Z→G.T→G.T→G.T→Rt:=fun x0 x1 x2 x3 x4 x5 x6 x7=>n [yS 3 x0,yI x1,yI x2,yS 15 x3,yR 0 x4,yR 3 x5,yR 3 x6,yR 3 x7]
def X3x2(n1:Nt):=V3x2 (xD ii3 e [1,1,1,1,0,1,0,0,1,0,0,1,1,0] ct3x2 (q3x5 c e n1))
theorem s3x0:V3x0 (xF ii3 c e)=B3x0 c (X3x1 c e):=by kernel_rfl
theorem s3x1(n1:Nt):V3x1 (xA ii3 c e [1,1,1,1,0,1,0,0] aEx (lpK U0 aEx n1 (q3x2 c e)))=B3x1 c (X3x2 c e n1):=by kernel_rfl
theorem s3x2(n1:Nt):V3x2 (xA ii3 c e [1,1,1,1,0,1,0,0,1,0,0,1,1,0] ct3x2 (q3x5 c e n1))=B3x2 c (V3x1 n1):=by kernel_rfl
def J3x2(c:TC0)(L:Nat)(n1:Int→List G.E→Int→List G.T→G.Z→G.T→G.T→Rt):List G.T→Int→Int→List G.E→G.Z→G.T→G.T→G.T→Rt:=B3x2 c n1
theorem j3x2(n1:Nt):X3x2 c (cu c L) n1=J3x2 c L (V3x1 n1):=by rw[X3x2,aL,s3x2];rfl
def W3x1(c:TC0)(L:Nat):Nat→Int→List G.E→Int→List G.T→G.Z→G.T→G.T→Rt
 |0=>fun _ _ _ _ _ _ _=>none
 |n+1=>B3x1 c (J3x2 c L (W3x1 c L n))
theorem u3x1(n:Nat):V3x1 (xL ii3 c L [1,1,1,1,0,1,0,0] aEx (q3x2 c (cu c L)) n)=W3x1 c L n:=by
 induction n with
 |zero=>rfl
 |succ n ih=>rw[fA,s3x1];simp only[j3x2,ih];rfl
theorem w3x1:X3x1 c (cu c L)=W3x1 c L L:=u3x1 c L L
def F3(c:TC0)(L:Nat):List G.E→G.Z→Rt:=B3x0 c (W3x1 c L L)
theorem e3:V3x0 (xF ii3 c (cu c L))=F3 c L:=by rw[s3x0];simp only[w3x1];rfl
theorem c3(a1:List G.E)(b0:G.Z)(L n:Nat):CTp L (n+1) 3 [yS 15 a1,yR 0 b0]=F3 (CTp L n) L a1 b0:=by rw[←e3];exact cg (x:=ii3) (by kernel_rfl) (by kernel_rfl) L n _
def q4x0(c:TC0)(e:Cu):Kt:=xK ii4
def q4x1(c:TC0)(e:Cu):Kt:=xT ii4 c e [1,1] (q4x0 c e)
def q4x2(c:TC0)(e:Cu):Kt:=xT ii4 c e [1,1,1,1,1,0,1,1] (q4x0 c e)
def q4x3(c:TC0)(e:Cu):Kt:=cH U0 0 (q4x2 c e)
def q4x4(c:TC0)(e:Cu)(n3:Nt):Kt:=lpK U0 aEw n3 (q4x3 c e)
def B4x0(c:TC0)(k1:Bool→Bool→List G.T→Int→Rt)(a0:List G.T)(a1:Int)(a2:Bool):Rt:=
 cnd (decide (a1<(0:Int))) (k1 true a2 a0 a1) (k1 (decide ((List.length a0:Int)≤a1)) a2 a0 a1)
def V4x0(n:Nt):List G.T→Int→Bool→Rt:=fun x0 x1 x2=>n [yS 3 x0,yI x1,yB x2]
def B4x1(c:TC0)(k2:List G.T→Int→G.T→G.T→Rt)(a22:Bool)(a2:Bool)(a0:List G.T)(a1:Int):Rt:=
 cnd a22 (some [yS 3 ([]:List G.T),yB false]) (ob (idx a0 a1) fun v0=>
 obL [.rc 3,.rc 3,.bool] (c 19 [yR 3 v0]) fun(r1:G.T×G.T×Bool×Unit)=>
 cnd (!r1.2.2.1) (some [yS 3 ([]:List G.T),yB false]) (cnd a2 (k2 a0 a1 r1.2.1 r1.1) (k2 a0 a1 r1.1 r1.2.1)))
def V4x1(n:Nt):Bool→Bool→List G.T→Int→Rt:=fun x0 x1 x2 x3=>n [yB x0,yB x1,yS 3 x2,yI x3]
def X4x1:=V4x1 (xD ii4 e [1,0,1,0] ct4x1 (q4x1 c e))
def B4x2(c:TC0)(e3:Int→List G.T→Int→Int→List G.T→G.T→G.T→Rt)(a0:List G.T)(a1:Int)(b108:G.T)(b109:G.T):Rt:=
 e3 (List.length a0:Int) a0 a1 (0:Int) ([]:List G.T) b108 b109
def V4x2(n:Nt):List G.T→Int→G.T→G.T→Rt:=fun x0 x1 x2 x3=>n [yS 3 x0,yI x1,yR 3 x2,yR 3 x3]
def X4x2:=V4x2 (xD ii4 e [1,1,1,1,1,0] ct4x2 (q4x0 c e))
def B4x3(c:TC0)(k4:Int→Int→List G.T→Int→List G.T→G.T→G.T→Rt)(a38:Int)(a37:List G.T)(a1:Int)(a39:Int)(a11:List G.T)(b108:G.T)(b109:G.T):Rt:=
 cnd (decide (a39<a38)) (ob (idx a37 a39) fun v0=>
 cnd (decide (a39=a1)) (k4 a39 a38 a37 a1 a11 b108 b109) (obL [.rc 3] (c 20 [yR 3 v0,yR 3 b108,yR 3 b109]) fun(r1:G.T×Unit)=>
 obL [.bool] (c 21 [yR 3 r1.1]) fun(r2:Bool×Unit)=>
 cnd (!r2.1) (some [yS 3 ([]:List G.T),yB false]) (obL [zS 3] (c 22 [yS 3 a11,yS 3 ([r1.1]:List G.T)]) fun(r3:List G.T×Unit)=>
 k4 a39 a38 a37 a1 r3.1 b108 b109))) (some [yS 3 a11,yB true])
def V4x3(n:Nt):Int→List G.T→Int→Int→List G.T→G.T→G.T→Rt:=fun x0 x1 x2 x3 x4 x5 x6=>n [yI x0,yS 3 x1,yI x2,yI x3,yS 3 x4,yR 3 x5,yR 3 x6]
def X4x3:=V4x3 (xE ii4 e [1,1,1,1,1,0,1,0,1,0,0] aEw (q4x3 c e))
def B4x4(c:TC0)(n3:Int→List G.T→Int→Int→List G.T→G.T→G.T→Rt)(a39:Int)(a38:Int)(a37:List G.T)(a1:Int)(a11:List G.T)(b108:G.T)(b109:G.T):Rt:=
 n3 a38 a37 a1 (IntKind.i64.wrap (a39+(1:Int))) a11 b108 b109
def V4x4(n:Nt):Int→Int→List G.T→Int→List G.T→G.T→G.T→Rt:=fun x0 x1 x2 x3 x4 x5 x6=>n [yI x0,yI x1,yS 3 x2,yI x3,yS 3 x4,yR 3 x5,yR 3 x6]
def X4x4(n3:Nt):=V4x4 (xD ii4 e [1,1,1,1,1,0,1,0,1,0,0,1,1,1,0] ct4x4 (q4x4 c e n3))
theorem s4x0:V4x0 (xF ii4 c e)=B4x0 c (X4x1 c e):=by kernel_rfl
theorem s4x1:V4x1 (xA ii4 c e [1,0,1,0] ct4x1 (q4x1 c e))=B4x1 c (X4x2 c e):=by kernel_rfl
theorem s4x2:V4x2 (xA ii4 c e [1,1,1,1,1,0] ct4x2 (q4x0 c e))=B4x2 c (X4x3 c e):=by kernel_rfl
theorem s4x3(n3:Nt):V4x3 (xA ii4 c e [1,1,1,1,1,0,1,0,1,0,0] aEw (lpK U0 aEw n3 (q4x3 c e)))=B4x3 c (X4x4 c e n3):=by kernel_rfl
theorem s4x4(n3:Nt):V4x4 (xA ii4 c e [1,1,1,1,1,0,1,0,1,0,0,1,1,1,0] ct4x4 (q4x4 c e n3))=B4x4 c (V4x3 n3):=by kernel_rfl
def J4x4(c:TC0)(L:Nat)(n3:Int→List G.T→Int→Int→List G.T→G.T→G.T→Rt):Int→Int→List G.T→Int→List G.T→G.T→G.T→Rt:=B4x4 c n3
theorem j4x4(n3:Nt):X4x4 c (cu c L) n3=J4x4 c L (V4x3 n3):=by rw[X4x4,aL,s4x4];rfl
def W4x3(c:TC0)(L:Nat):Nat→Int→List G.T→Int→Int→List G.T→G.T→G.T→Rt
 |0=>fun _ _ _ _ _ _ _=>none
 |n+1=>B4x3 c (J4x4 c L (W4x3 c L n))
theorem u4x3(n:Nat):V4x3 (xL ii4 c L [1,1,1,1,1,0,1,0,1,0,0] aEw (q4x3 c (cu c L)) n)=W4x3 c L n:=by
 induction n with
 |zero=>rfl
 |succ n ih=>rw[fA,s4x3];simp only[j4x4,ih];rfl
theorem w4x3:X4x3 c (cu c L)=W4x3 c L L:=u4x3 c L L
def J4x2(c:TC0)(L:Nat):List G.T→Int→G.T→G.T→Rt:=B4x2 c (W4x3 c L L)
theorem j4x2:X4x2 c (cu c L)=J4x2 c L:=by rw[X4x2,aL,s4x2];simp only[w4x3];rfl
def J4x1(c:TC0)(L:Nat):Bool→Bool→List G.T→Int→Rt:=B4x1 c (J4x2 c L)
theorem j4x1:X4x1 c (cu c L)=J4x1 c L:=by rw[X4x1,aL,s4x1];simp only[j4x2];rfl
def F4(c:TC0)(L:Nat):List G.T→Int→Bool→Rt:=B4x0 c (J4x1 c L)
theorem e4:V4x0 (xF ii4 c (cu c L))=F4 c L:=by rw[s4x0];simp only[j4x1];rfl
theorem c4(a0:List G.T)(a1:Int)(a2:Bool)(L n:Nat):CTp L (n+1) 4 [yS 3 a0,yI a1,yB a2]=F4 (CTp L n) L a0 a1 a2:=by rw[←e4];exact cg (x:=ii4) (by kernel_rfl) (by kernel_rfl) L n _
def q5x0(c:TC0)(e:Cu):Kt:=xK ii5
def q5x1(c:TC0)(e:Cu):Kt:=xT ii5 c e [1,1] (q5x0 c e)
def q5x2(c:TC0)(e:Cu):Kt:=xT ii5 c e [1,1,1,1,1,0,1,1] (q5x0 c e)
def q5x3(c:TC0)(e:Cu):Kt:=cH U0 0 (q5x2 c e)
def q5x4(c:TC0)(e:Cu)(n3:Nt):Kt:=lpK U0 aEv n3 (q5x3 c e)
def B5x0(c:TC0)(k1:Bool→Bool→Int→List G.T→Rt)(a0:List G.T)(a1:Int)(a2:Bool):Rt:=
 cnd (decide (a1<(0:Int))) (k1 true a2 a1 a0) (k1 (decide ((List.length a0:Int)≤a1)) a2 a1 a0)
def V5x0(n:Nt):List G.T→Int→Bool→Rt:=fun x0 x1 x2=>n [yS 3 x0,yI x1,yB x2]
def B5x1(c:TC0)(k2:Int→List G.T→G.T→G.T→Rt)(a21:Bool)(a2:Bool)(a1:Int)(a0:List G.T):Rt:=
 cnd a21 (some [yS 3 ([]:List G.T),yB false]) (ob (idx a0 a1) fun v0=>
 obL [.rc 3,.rc 3,.bool] (c 23 [yR 3 v0]) fun(r1:G.T×G.T×Bool×Unit)=>
 cnd (!r1.2.2.1) (some [yS 3 ([]:List G.T),yB false]) (cnd a2 (k2 a1 a0 r1.2.1 r1.1) (k2 a1 a0 r1.1 r1.2.1)))
def V5x1(n:Nt):Bool→Bool→Int→List G.T→Rt:=fun x0 x1 x2 x3=>n [yB x0,yB x1,yI x2,yS 3 x3]
def X5x1:=V5x1 (xD ii5 e [1,0,1,0] ct5x1 (q5x1 c e))
def B5x2(c:TC0)(e3:Int→List G.T→Int→List G.T→G.T→G.T→Rt)(a1:Int)(a0:List G.T)(b108:G.T)(b109:G.T):Rt:=
 e3 a1 a0 (0:Int) ([]:List G.T) b108 b109
def V5x2(n:Nt):Int→List G.T→G.T→G.T→Rt:=fun x0 x1 x2 x3=>n [yI x0,yS 3 x1,yR 3 x2,yR 3 x3]
def X5x2:=V5x2 (xD ii5 e [1,1,1,1,1,0] ct5x2 (q5x0 c e))
def B5x3(c:TC0)(k4:Int→Int→List G.T→List G.T→G.T→G.T→Rt)(a1:Int)(a0:List G.T)(a12:Int)(a11:List G.T)(b108:G.T)(b109:G.T):Rt:=
 cnd (decide (a12<(List.length a0:Int))) (cnd (decide (a12=a1)) (k4 a12 a1 a0 a11 b108 b109) (ob (idx a0 a12) fun v0=>
 obL [.rc 3] (c 24 [yR 3 v0,yR 3 b108,yR 3 b109]) fun(r1:G.T×Unit)=>
 obL [.bool] (c 25 [yR 3 r1.1]) fun(r2:Bool×Unit)=>
 cnd (!r2.1) (some [yS 3 ([]:List G.T),yB false]) (obL [zS 3] (c 18 [yS 3 a11,yS 3 ([r1.1]:List G.T)]) fun(r3:List G.T×Unit)=>
 k4 a12 a1 a0 r3.1 b108 b109))) (some [yS 3 a11,yB true])
def V5x3(n:Nt):Int→List G.T→Int→List G.T→G.T→G.T→Rt:=fun x0 x1 x2 x3 x4 x5=>n [yI x0,yS 3 x1,yI x2,yS 3 x3,yR 3 x4,yR 3 x5]
def X5x3:=V5x3 (xE ii5 e [1,1,1,1,1,0,1,0,1,0,0] aEv (q5x3 c e))
def B5x4(c:TC0)(n3:Int→List G.T→Int→List G.T→G.T→G.T→Rt)(a12:Int)(a1:Int)(a0:List G.T)(a11:List G.T)(b108:G.T)(b109:G.T):Rt:=
 n3 a1 a0 (IntKind.i64.wrap (a12+(1:Int))) a11 b108 b109
def V5x4(n:Nt):Int→Int→List G.T→List G.T→G.T→G.T→Rt:=fun x0 x1 x2 x3 x4 x5=>n [yI x0,yI x1,yS 3 x2,yS 3 x3,yR 3 x4,yR 3 x5]
def X5x4(n3:Nt):=V5x4 (xD ii5 e [1,1,1,1,1,0,1,0,1,0,0,1,1,0] ct5x4 (q5x4 c e n3))
theorem s5x0:V5x0 (xF ii5 c e)=B5x0 c (X5x1 c e):=by kernel_rfl
theorem s5x1:V5x1 (xA ii5 c e [1,0,1,0] ct5x1 (q5x1 c e))=B5x1 c (X5x2 c e):=by kernel_rfl
theorem s5x2:V5x2 (xA ii5 c e [1,1,1,1,1,0] ct5x2 (q5x0 c e))=B5x2 c (X5x3 c e):=by kernel_rfl
theorem s5x3(n3:Nt):V5x3 (xA ii5 c e [1,1,1,1,1,0,1,0,1,0,0] aEv (lpK U0 aEv n3 (q5x3 c e)))=B5x3 c (X5x4 c e n3):=by kernel_rfl
theorem s5x4(n3:Nt):V5x4 (xA ii5 c e [1,1,1,1,1,0,1,0,1,0,0,1,1,0] ct5x4 (q5x4 c e n3))=B5x4 c (V5x3 n3):=by kernel_rfl
def J5x4(c:TC0)(L:Nat)(n3:Int→List G.T→Int→List G.T→G.T→G.T→Rt):Int→Int→List G.T→List G.T→G.T→G.T→Rt:=B5x4 c n3
theorem j5x4(n3:Nt):X5x4 c (cu c L) n3=J5x4 c L (V5x3 n3):=by rw[X5x4,aL,s5x4];rfl
def W5x3(c:TC0)(L:Nat):Nat→Int→List G.T→Int→List G.T→G.T→G.T→Rt
 |0=>fun _ _ _ _ _ _=>none
 |n+1=>B5x3 c (J5x4 c L (W5x3 c L n))
theorem u5x3(n:Nat):V5x3 (xL ii5 c L [1,1,1,1,1,0,1,0,1,0,0] aEv (q5x3 c (cu c L)) n)=W5x3 c L n:=by
 induction n with
 |zero=>rfl
 |succ n ih=>rw[fA,s5x3];simp only[j5x4,ih];rfl
theorem w5x3:X5x3 c (cu c L)=W5x3 c L L:=u5x3 c L L
def J5x2(c:TC0)(L:Nat):Int→List G.T→G.T→G.T→Rt:=B5x2 c (W5x3 c L L)
theorem j5x2:X5x2 c (cu c L)=J5x2 c L:=by rw[X5x2,aL,s5x2];simp only[w5x3];rfl
def J5x1(c:TC0)(L:Nat):Bool→Bool→Int→List G.T→Rt:=B5x1 c (J5x2 c L)
theorem j5x1:X5x1 c (cu c L)=J5x1 c L:=by rw[X5x1,aL,s5x1];simp only[j5x2];rfl
def F5(c:TC0)(L:Nat):List G.T→Int→Bool→Rt:=B5x0 c (J5x1 c L)
theorem e5:V5x0 (xF ii5 c (cu c L))=F5 c L:=by rw[s5x0];simp only[j5x1];rfl
theorem c5(a0:List G.T)(a1:Int)(a2:Bool)(L n:Nat):CTp L (n+1) 5 [yS 3 a0,yI a1,yB a2]=F5 (CTp L n) L a0 a1 a2:=by rw[←e5];exact cg (x:=ii5) (by kernel_rfl) (by kernel_rfl) L n _
def B6x0(c:TC0)(a0:List G.T)(a1:List G.T):Rt:=
 obL [.bool] (c 26 [yS 3 a0,yS 3 a1]) fun(r0:Bool×Unit)=>
 some [yB r0.1]
def V6x0(n:Nt):List G.T→List G.T→Rt:=fun x0 x1=>n [yS 3 x0,yS 3 x1]
theorem s6x0:V6x0 (xF ii6 c e)=B6x0 c:=by kernel_rfl
def F6(c:TC0)(L:Nat):List G.T→List G.T→Rt:=B6x0 c
theorem e6:V6x0 (xF ii6 c (cu c L))=F6 c L:=s6x0 _ _
theorem c6(a0:List G.T)(a1:List G.T)(L n:Nat):CTp L (n+1) 6 [yS 3 a0,yS 3 a1]=F6 (CTp L n) L a0 a1:=by rw[←e6];exact cg (x:=ii6) (by kernel_rfl) (by kernel_rfl) L n _
def q10x0(c:TC0)(e:Cu):Kt:=xK ii10
def q10x1(c:TC0)(e:Cu):Kt:=xT ii10 c e [1,1,1,1] (q10x0 c e)
def q10x2(c:TC0)(e:Cu):Kt:=cH U0 0 (q10x1 c e)
def B10x0(c:TC0)(e1:List G.O→Int→List G.E→Rt):Rt:=
 obL [zS 2] (c 31 []) fun(r0:List G.O×Unit)=>
 e1 r0.1 (0:Int) ([]:List G.E)
def V10x0(n:Nt):Rt:=n []
def aEX(c:TC0)(n1:List G.O→Int→List G.E→Rt)(a2:List G.O)(a3:Int)(a1:List G.E):Rt:=
 cnd (decide (a3<(List.length a2:Int))) (ob (idx a2 a3) fun v0=>
 obL [.rc 15] (c 32 [yS 15 a1,yR 2 v0]) fun(r1:G.E×Unit)=>
 chk (Nat.ble ((List.length a1+List.length ([r1.1]:List G.E))*568) 1073741824)<|
 n1 a2 (IntKind.i64.wrap (a3+(1:Int))) (a1++([r1.1]:List G.E))) (obL [.rc 1] (c 33 [yT ([117,115,101,114,45,112,97,99,107,97,103,101]:List UInt8)]) fun(r2:G.Y×Unit)=>
 obL [zS 1] (c 34 []) fun(r3:List G.Y×Unit)=>
 chk (Nat.ble ((List.length a1+List.length ([(G.E.mk (1:Int) r2.1 (G.A.mk ([117,115,101,114]:List UInt8) r3.1) (G.M.mk (G.Y.mk ([]:List UInt8) ([]:List UInt8)) ([]:List G.Y) false (G.T.mk (0:Int) (G.Y.mk ([]:List UInt8) ([]:List UInt8)) (G.O.mk (0:Int) ([]:List UInt8) ([]:List UInt8) (G.Y.mk ([]:List UInt8) ([]:List UInt8)) ([]:List UInt8) ([]:List G.O)) ([]:List G.T))) ([]:List G.F) ([]:List G.T) ([]:List (List G.N)) ([]:List G.E) (G.B.mk (G.Y.mk ([]:List UInt8) ([]:List UInt8)) ([]:List G.D)) ([]:List G.U) ([]:List G.Y) ([]:List G.Y) ([]:List UInt8) (0:Int))]:List G.E))*568) 1073741824)<|
 some [yS 15 (a1++([(G.E.mk (1:Int) r2.1 (G.A.mk ([117,115,101,114]:List UInt8) r3.1) (G.M.mk (G.Y.mk ([]:List UInt8) ([]:List UInt8)) ([]:List G.Y) false (G.T.mk (0:Int) (G.Y.mk ([]:List UInt8) ([]:List UInt8)) (G.O.mk (0:Int) ([]:List UInt8) ([]:List UInt8) (G.Y.mk ([]:List UInt8) ([]:List UInt8)) ([]:List UInt8) ([]:List G.O)) ([]:List G.T))) ([]:List G.F) ([]:List G.T) ([]:List (List G.N)) ([]:List G.E) (G.B.mk (G.Y.mk ([]:List UInt8) ([]:List UInt8)) ([]:List G.D)) ([]:List G.U) ([]:List G.Y) ([]:List G.Y) ([]:List UInt8) (0:Int))]:List G.E))])
def V10x1(n:Nt):List G.O→Int→List G.E→Rt:=fun x0 x1 x2=>n [yS 2 x0,yI x1,yS 15 x2]
def X10x1:=V10x1 (xE ii10 e [1,1,1,0,1,0,0] yG (q10x2 c e))
theorem s10x0:V10x0 (xF ii10 c e)=B10x0 c (X10x1 c e):=by kernel_rfl
theorem s10x1(n1:Nt):V10x1 (xA ii10 c e [1,1,1,0,1,0,0] yG (lpK U0 yG n1 (q10x2 c e)))=aEX c (V10x1 n1):=by kernel_rfl
def oN(c:TC0)(L:Nat):Nat→List G.O→Int→List G.E→Rt
 |0=>fun _ _ _=>none
 |n+1=>aEX c (oN c L n)
theorem u10x1(n:Nat):V10x1 (xL ii10 c L [1,1,1,0,1,0,0] yG (q10x2 c (cu c L)) n)=oN c L n:=by
 induction n with
 |zero=>rfl
 |succ n ih=>rw[fA,s10x1];simp only[ih];rfl
theorem w10x1:X10x1 c (cu c L)=oN c L L:=u10x1 c L L
def F10(c:TC0)(L:Nat):Rt:=B10x0 c (oN c L L)
theorem e10:V10x0 (xF ii10 c (cu c L))=F10 c L:=by rw[s10x0];simp only[w10x1];rfl
theorem c10(L n:Nat):CTp L (n+1) 10 []=F10 (CTp L n) L:=by rw[←e10];exact cg (x:=ii10) (by kernel_rfl) (by kernel_rfl) L n _
def aEb(c:TC0)(e:Cu):Kt:=xK zU
def q14x1(c:TC0)(e:Cu):Kt:=xT zU c e [1,1,1] (aEb c e)
def q14x2(c:TC0)(e:Cu):Kt:=xT zU c e [1,1,1,0,1,1,1,0,1,1,1] (aEb c e)
def q14x3(c:TC0)(e:Cu):Kt:=cH U0 1 (q14x2 c e)
def B14x0(c:TC0)(k1:Bool→Int→List G.E→Int→G.Z→G.T→Rt)(a1:List G.E)(a2:Int)(b0:G.Z):Rt:=
 obL [i6,.rc 0] (c 16 [yI (12:Int),yR 0 b0]) fun(r0:Int×G.Z×Unit)=>
 cnd (decide (a2<(1:Int))) (k1 (decide ((3:Int)<r0.1)) r0.1 a1 a2 r0.2.1 (G.T.mk (0:Int) (G.Y.mk ([]:List UInt8) ([]:List UInt8)) (G.O.mk (0:Int) ([]:List UInt8) ([]:List UInt8) (G.Y.mk ([]:List UInt8) ([]:List UInt8)) ([]:List UInt8) ([]:List G.O)) ([]:List G.T))) (k1 false r0.1 a1 a2 r0.2.1 (G.T.mk (0:Int) (G.Y.mk ([]:List UInt8) ([]:List UInt8)) (G.O.mk (0:Int) ([]:List UInt8) ([]:List UInt8) (G.Y.mk ([]:List UInt8) ([]:List UInt8)) ([]:List UInt8) ([]:List G.O)) ([]:List G.T)))
def V14x0(n:Nt):List G.E→Int→G.Z→Rt:=fun x0 x1 x2=>n [yS 15 x0,yI x1,yR 0 x2]
def B14x1(c:TC0)(k2:Int→List G.E→Int→G.Z→G.T→Rt)(a22:Bool)(a7:Int)(a1:List G.E)(a2:Int)(b0:G.Z)(b106:G.T):Rt:=
 cnd a22 (chk (!decide ((4:Int)=0))<|
 k2 (Int.tmod a7 (4:Int)) a1 a2 b0 b106) (k2 a7 a1 a2 b0 b106)
def V14x1(n:Nt):Bool→Int→List G.E→Int→G.Z→G.T→Rt:=fun x0 x1 x2 x3 x4 x5=>n [yB x0,yI x1,yS 15 x2,yI x3,yR 0 x4,yR 3 x5]
def X14x1:=V14x1 (xD zU e [1,1,0,1,0] aHB (q14x1 c e))
def B14x2(c:TC0)(k3:List G.E→Int→G.Z→G.Y→G.T→Rt)(a7:Int)(a1:List G.E)(a2:Int)(b0:G.Z)(b106:G.T):Rt:=
 cnd (decide (a7<(3:Int))) (obL [.rc 3,.rc 0] (c 17 [yR 0 b0]) fun(r0:G.T×G.Z×Unit)=>
 some [yR 3 r0.1,yR 0 r0.2.1]) (cnd (decide (a7=(3:Int))) (obL [.rc 2,.rc 0] (c 45 [yI (1:Int),yR 0 b0]) fun(r1:G.O×G.Z×Unit)=>
 obL [.rc 3] (c 46 [yR 2 r1.1]) fun(r2:G.T×Unit)=>
 some [yR 3 r2.1,yR 0 r1.2.1]) (obL [(.sl .str)] (c 47 []) fun(r3:(List (List UInt8))×Unit)=>
 obL [(.sl .str)] (c 48 []) fun(r4:(List (List UInt8))×Unit)=>
 obL [i6,.rc 0] (c 16 [yI (4:Int),yR 0 b0]) fun(r5:Int×G.Z×Unit)=>
 cnd (decide (r5.1<(3:Int))) (obL [i6,.rc 0] (c 16 [yI (List.length r3.1:Int),yR 0 r5.2.1]) fun(r6:Int×G.Z×Unit)=>
 ob (idx r3.1 r6.1) fun v7=>
 obL [.rc 1] (c 49 [yT v7]) fun(r8:G.Y×Unit)=>
 k3 a1 a2 r6.2.1 r8.1 b106) (obL [i6,.rc 0] (c 16 [yI (List.length r4.1:Int),yR 0 r5.2.1]) fun(r9:Int×G.Z×Unit)=>
 ob (idx r4.1 r9.1) fun v10=>
 obL [.rc 1] (c 13 [yT v10]) fun(r11:G.Y×Unit)=>
 k3 a1 a2 r9.2.1 r11.1 b106)))
def V14x2(n:Nt):Int→List G.E→Int→G.Z→G.T→Rt:=fun x0 x1 x2 x3 x4=>n [yI x0,yS 15 x1,yI x2,yR 0 x3,yR 3 x4]
def X14x2:=V14x2 (xD zU e [1,1,1,0] aHA (aEb c e))
def B14x3(c:TC0)(e4:Int→List G.E→Int→Int→List G.T→G.Z→G.Y→G.T→Rt)(a1:List G.E)(a2:Int)(b0:G.Z)(b108:G.Y)(b106:G.T):Rt:=
 obL [i6,.bool] (c 50 [yS 15 a1,yR 1 b108]) fun(r0:Int×Bool×Unit)=>
 e4 r0.1 a1 a2 (0:Int) ([]:List G.T) b0 b108 b106
def V14x3(n:Nt):List G.E→Int→G.Z→G.Y→G.T→Rt:=fun x0 x1 x2 x3 x4=>n [yS 15 x0,yI x1,yR 0 x2,yR 1 x3,yR 3 x4]
def X14x3:=V14x3 (xD zU e [1,1,1,0,1,1,1,0] aHz (aEb c e))
def B14x4(c:TC0)(n4:Int→List G.E→Int→Int→List G.T→G.Z→G.Y→G.T→Rt)(a11:Int)(a1:List G.E)(a2:Int)(a14:Int)(a13:List G.T)(b0:G.Z)(b108:G.Y)(b106:G.T):Rt:=
 cnd (decide (a14<a11)) (obL [.rc 3,.rc 0] (c 14 [yS 15 a1,yI (IntKind.i64.wrap (a2-(1:Int))),yR 0 b0]) fun(r0:G.T×G.Z×Unit)=>
 chk (Nat.ble ((List.length a13+List.length ([r0.1]:List G.T))*176) 1073741824)<|
 n4 a11 a1 a2 (IntKind.i64.wrap (a14+(1:Int))) (a13++([r0.1]:List G.T)) r0.2.1 b108 b106) (obL [.rc 3] (c 44 [yR 1 b108,yS 3 a13]) fun(r1:G.T×Unit)=>
 some [yR 3 r1.1,yR 0 b0])
def V14x4(n:Nt):Int→List G.E→Int→Int→List G.T→G.Z→G.Y→G.T→Rt:=fun x0 x1 x2 x3 x4 x5 x6 x7=>n [yI x0,yS 15 x1,yI x2,yI x3,yS 3 x4,yR 0 x5,yR 1 x6,yR 3 x7]
def X14x4:=V14x4 (xE zU e [1,1,1,0,1,1,1,0,1,1,0,1,0,0] yF (q14x3 c e))
theorem s14x0:V14x0 (xF zU c e)=B14x0 c (X14x1 c e):=by kernel_rfl
theorem s14x1:V14x1 (xA zU c e [1,1,0,1,0] aHB (q14x1 c e))=B14x1 c (X14x2 c e):=by kernel_rfl
theorem s14x2:V14x2 (xA zU c e [1,1,1,0] aHA (aEb c e))=B14x2 c (X14x3 c e):=by kernel_rfl
theorem s14x3:V14x3 (xA zU c e [1,1,1,0,1,1,1,0] aHz (aEb c e))=B14x3 c (X14x4 c e):=by kernel_rfl
theorem s14x4(n4:Nt):V14x4 (xA zU c e [1,1,1,0,1,1,1,0,1,1,0,1,0,0] yF (lpK U0 yF n4 (q14x3 c e)))=B14x4 c (V14x4 n4):=by kernel_rfl
def aBI(c:TC0)(L:Nat):Nat→Int→List G.E→Int→Int→List G.T→G.Z→G.Y→G.T→Rt
 |0=>fun _ _ _ _ _ _ _ _=>none
 |n+1=>B14x4 c (aBI c L n)
theorem u14x4(n:Nat):V14x4 (xL zU c L [1,1,1,0,1,1,1,0,1,1,0,1,0,0] yF (q14x3 c (cu c L)) n)=aBI c L n:=by
 induction n with
 |zero=>rfl
 |succ n ih=>rw[fA,s14x4];simp only[ih];rfl
theorem w14x4:X14x4 c (cu c L)=aBI c L L:=u14x4 c L L
def J14x3(c:TC0)(L:Nat):List G.E→Int→G.Z→G.Y→G.T→Rt:=B14x3 c (aBI c L L)
theorem j14x3:X14x3 c (cu c L)=J14x3 c L:=by rw[X14x3,aL,s14x3];simp only[w14x4];rfl
def aIZ(c:TC0)(L:Nat):Int→List G.E→Int→G.Z→G.T→Rt:=B14x2 c (J14x3 c L)
theorem j14x2:X14x2 c (cu c L)=aIZ c L:=by rw[X14x2,aL,s14x2];simp only[j14x3];rfl
def aEU(c:TC0)(L:Nat):Bool→Int→List G.E→Int→G.Z→G.T→Rt:=B14x1 c (aIZ c L)
theorem j14x1:X14x1 c (cu c L)=aEU c L:=by rw[X14x1,aL,s14x1];simp only[j14x2];rfl
def F14(c:TC0)(L:Nat):List G.E→Int→G.Z→Rt:=B14x0 c (aEU c L)
theorem e14:V14x0 (xF zU c (cu c L))=F14 c L:=by rw[s14x0];simp only[j14x1];rfl
theorem c14(a1:List G.E)(a2:Int)(b0:G.Z)(L n:Nat):CTp L (n+1) 14 [yS 15 a1,yI a2,yR 0 b0]=F14 (CTp L n) L a1 a2 b0:=by rw[←e14];exact cg (x:=zU) (by kernel_rfl) (by kernel_rfl) L n _
end
end Go.TV
namespace Go.TV
open Go.AI Go.PI Go.Proofs
theorem cst_some{t u:Ty}{x:Den U0.D t}{y:Den U0.D u}(h:cst t u x=some y):(⟨t,x⟩:TV U0.D)=⟨u,y⟩:=by
 unfold cst at h;split at h
 ·rename_i e _;subst e;simp only[ojE]at h;subst h;rfl
 ·cases h
theorem aC8: ∀{ts:List Ty} {d:TVs} {r:DenL U0.D ts},dE ts d=some r→d=tvL ts r
 |[],[],_,_=>rfl
 |[],_::_,_,h=>by cases h
 |_::_,[],_,h=>by cases h
 |t::ts,v::d,r,h=>by
  simp only[dE]at h;split at h
  ·rename_i x q h1 h2;simp only[ojE]at h;subst h;show v::d=⟨t,x⟩::tvL ts q;rw[←aC8 h2,←cst_some h1]
  ·cases h
def hx(ts:List Ty)(d:TVs)(K:DenL U0.D ts→Rt)(z:Rt):Rt:=match dE ts d with|some r=>K r|none=>z
theorem cK{ts:List Ty}{d:TVs}{K:DenL U0.D ts→Rt}{z:Rt}(h: ∀r,d=tvL ts r→K r=z):hx ts d K z=z:=by
 unfold hx;split
 ·rename_i r e;exact h r (aC8 e)
 ·rfl
def Hk(i:Nat)(h:TC0→Nat→TVs→Rt→Rt)(L m:Nat)(d:TVs):Prop:=h (CTp L m) L d (CTp L (m+1) i d)=CTp L (m+1) i d
theorem evq{b:Bool}{x y z:Rt}(h1:b=true→x=z)(h2:y=z):(bif b then x else y)=z:=by cases b;exact h2;exact h1 rfl
theorem evc{b:Bool}{x y z:Rt}(h1:x=z)(h2:y=z):(bif b then x else y)=z:=by cases b;exact h2;exact h1
noncomputable def hG(i:Nat)(c:TC0)(L:Nat)(d:TVs)(z:Rt):Rt:=
 match oK insL i with
 |some x=>bif Nat.beq x.sig.f orcI.n||Nat.beq x.sig.f orcI.m then z else xF x c (cu c L) d
 |none=>z
theorem fJ(i L m:Nat)(d:TVs):hG i (CTp L m) L d (CTp L (m+1) i d)=CTp L (m+1) i d:=by
 unfold hG;split
 ·rename_i x hx;cases hb:Nat.beq x.sig.f orcI.n||Nat.beq x.sig.f orcI.m with
  |true=>rfl
  |false=>exact(cg hx hb L m d).symm
 ·rfl
end Go.TV
namespace Go.TV
open Go.AI Go.PI Go.Proofs
set_option maxRecDepth 20000
def h2(c:TC0)(L:Nat)(d:TVs)(z:Rt):Rt:=hx [(.int .u32)] d (fun r=>F2 c L r.1) z
theorem g2(L m:Nat)(d:TVs):Hk 2 h2 L m d:=cK fun r e=>e▸(c2 r.1 L m).symm
def h10(c:TC0)(L:Nat)(d:TVs)(z:Rt):Rt:=hx [] d (fun _=>F10 c L) z
theorem g10(L m:Nat)(d:TVs):Hk 10 h10 L m d:=cK fun r e=>e▸(c10 L m).symm
def h25(c:TC0)(L:Nat)(d:TVs)(z:Rt):Rt:=hx [.rc 3] d (fun r=>F25 c L r.1) z
theorem g25(L m:Nat)(d:TVs):Hk 25 h25 L m d:=cK fun r e=>e▸(c25 r.1 L m).symm
def h31(c:TC0)(L:Nat)(d:TVs)(z:Rt):Rt:=hx [] d (fun _=>F31 c L) z
theorem g31(L m:Nat)(d:TVs):Hk 31 h31 L m d:=cK fun r e=>e▸(c31 L m).symm
def h33(c:TC0)(L:Nat)(d:TVs)(z:Rt):Rt:=hx [.str] d (fun r=>F33 c L r.1) z
theorem g33(L m:Nat)(d:TVs):Hk 33 h33 L m d:=cK fun r e=>e▸(c33 r.1 L m).symm
def h47(c:TC0)(L:Nat)(d:TVs)(z:Rt):Rt:=hx [] d (fun _=>F47 c L) z
theorem g47(L m:Nat)(d:TVs):Hk 47 h47 L m d:=cK fun r e=>e▸(c47 L m).symm
def h48(c:TC0)(L:Nat)(d:TVs)(z:Rt):Rt:=hx [] d (fun _=>F48 c L) z
theorem g48(L m:Nat)(d:TVs):Hk 48 h48 L m d:=cK fun r e=>e▸(c48 L m).symm
def h50(c:TC0)(L:Nat)(d:TVs)(z:Rt):Rt:=hx [zS 15,.rc 1] d (fun r=>F50 c L r.1 r.2.1) z
theorem g50(L m:Nat)(d:TVs):Hk 50 h50 L m d:=cK fun r e=>e▸(c50 r.1 r.2.1 L m).symm
def h62(c:TC0)(L:Nat)(d:TVs)(z:Rt):Rt:=hx [.rc 3] d (fun r=>F62 c L r.1) z
theorem g62(L m:Nat)(d:TVs):Hk 62 h62 L m d:=cK fun r e=>e▸(c62 r.1 L m).symm
def h63(c:TC0)(L:Nat)(d:TVs)(z:Rt):Rt:=hx [.rc 3] d (fun r=>F63 c L r.1) z
theorem g63(L m:Nat)(d:TVs):Hk 63 h63 L m d:=cK fun r e=>e▸(c63 r.1 L m).symm
def h64(c:TC0)(L:Nat)(d:TVs)(z:Rt):Rt:=hx [.rc 3] d (fun r=>F64 c L r.1) z
theorem g64(L m:Nat)(d:TVs):Hk 64 h64 L m d:=cK fun r e=>e▸(c64 r.1 L m).symm
def h68(c:TC0)(L:Nat)(d:TVs)(z:Rt):Rt:=hx [] d (fun _=>F68 c L) z
theorem g68(L m:Nat)(d:TVs):Hk 68 h68 L m d:=cK fun r e=>e▸(c68 L m).symm
def h69(c:TC0)(L:Nat)(d:TVs)(z:Rt):Rt:=hx [] d (fun _=>F69 c L) z
theorem g69(L m:Nat)(d:TVs):Hk 69 h69 L m d:=cK fun r e=>e▸(c69 L m).symm
def h70(c:TC0)(L:Nat)(d:TVs)(z:Rt):Rt:=hx [zS 5,.str,.str] d (fun r=>F70 c L r.1 r.2.1 r.2.2.1) z
theorem g70(L m:Nat)(d:TVs):Hk 70 h70 L m d:=cK fun r e=>e▸(c70 r.1 r.2.1 r.2.2.1 L m).symm
def h84(c:TC0)(L:Nat)(d:TVs)(z:Rt):Rt:=hx [.rc 1] d (fun r=>F84 c L r.1) z
theorem g84(L m:Nat)(d:TVs):Hk 84 h84 L m d:=cK fun r e=>e▸(c84 r.1 L m).symm
def h85(c:TC0)(L:Nat)(d:TVs)(z:Rt):Rt:=hx [zS 15,.rc 1] d (fun r=>F85 c L r.1 r.2.1) z
theorem g85(L m:Nat)(d:TVs):Hk 85 h85 L m d:=cK fun r e=>e▸(c85 r.1 r.2.1 L m).symm
def h94(c:TC0)(L:Nat)(d:TVs)(z:Rt):Rt:=hx [.rc 2,.rc 2] d (fun r=>F94 c L r.1 r.2.1) z
theorem g94(L m:Nat)(d:TVs):Hk 94 h94 L m d:=cK fun r e=>e▸(c94 r.1 r.2.1 L m).symm
def h96(c:TC0)(L:Nat)(d:TVs)(z:Rt):Rt:=hx [.rc 3,i6] d (fun r=>F96 c L r.1 r.2.1) z
theorem g96(L m:Nat)(d:TVs):Hk 96 h96 L m d:=cK fun r e=>e▸(c96 r.1 r.2.1 L m).symm
def h97(c:TC0)(L:Nat)(d:TVs)(z:Rt):Rt:=hx [.rc 3,i6] d (fun r=>F97 c L r.1 r.2.1) z
theorem g97(L m:Nat)(d:TVs):Hk 97 h97 L m d:=cK fun r e=>e▸(c97 r.1 r.2.1 L m).symm
def h98(c:TC0)(L:Nat)(d:TVs)(z:Rt):Rt:=hx [.rc 1] d (fun r=>F98 c L r.1) z
theorem g98(L m:Nat)(d:TVs):Hk 98 h98 L m d:=cK fun r e=>e▸(c98 r.1 L m).symm
def h99(c:TC0)(L:Nat)(d:TVs)(z:Rt):Rt:=hx [.rc 2] d (fun r=>F99 c L r.1) z
theorem g99(L m:Nat)(d:TVs):Hk 99 h99 L m d:=cK fun r e=>e▸(c99 r.1 L m).symm
def h100(c:TC0)(L:Nat)(d:TVs)(z:Rt):Rt:=hx [.rc 1] d (fun r=>F100 c L r.1) z
theorem g100(L m:Nat)(d:TVs):Hk 100 h100 L m d:=cK fun r e=>e▸(c100 r.1 L m).symm
def h104(c:TC0)(L:Nat)(d:TVs)(z:Rt):Rt:=hx [i6,.rc 19] d (fun r=>F104 c L r.1 r.2.1) z
theorem g104(L m:Nat)(d:TVs):Hk 104 h104 L m d:=cK fun r e=>e▸(c104 r.1 r.2.1 L m).symm
def h105(c:TC0)(L:Nat)(d:TVs)(z:Rt):Rt:=hx [.rc 2] d (fun r=>F105 c L r.1) z
theorem g105(L m:Nat)(d:TVs):Hk 105 h105 L m d:=cK fun r e=>e▸(c105 r.1 L m).symm
def h109(c:TC0)(L:Nat)(d:TVs)(z:Rt):Rt:=hx [] d (fun _=>F109 c L) z
theorem g109(L m:Nat)(d:TVs):Hk 109 h109 L m d:=cK fun r e=>e▸(c109 L m).symm
def h113(c:TC0)(L:Nat)(d:TVs)(z:Rt):Rt:=hx [zS 15,.rc 1] d (fun r=>F113 c L r.1 r.2.1) z
theorem g113(L m:Nat)(d:TVs):Hk 113 h113 L m d:=cK fun r e=>e▸(c113 r.1 r.2.1 L m).symm
def h114(c:TC0)(L:Nat)(d:TVs)(z:Rt):Rt:=hx [.rc 15] d (fun r=>F114 c L r.1) z
theorem g114(L m:Nat)(d:TVs):Hk 114 h114 L m d:=cK fun r e=>e▸(c114 r.1 L m).symm
def h122(c:TC0)(L:Nat)(d:TVs)(z:Rt):Rt:=hx [.rc 3] d (fun r=>F122 c L r.1) z
theorem g122(L m:Nat)(d:TVs):Hk 122 h122 L m d:=cK fun r e=>e▸(c122 r.1 L m).symm
def h123(c:TC0)(L:Nat)(d:TVs)(z:Rt):Rt:=hx [.rc 2] d (fun r=>F123 c L r.1) z
theorem g123(L m:Nat)(d:TVs):Hk 123 h123 L m d:=cK fun r e=>e▸(c123 r.1 L m).symm
def h124(c:TC0)(L:Nat)(d:TVs)(z:Rt):Rt:=hx [.rc 1] d (fun r=>F124 c L r.1) z
theorem g124(L m:Nat)(d:TVs):Hk 124 h124 L m d:=cK fun r e=>e▸(c124 r.1 L m).symm
def h128(c:TC0)(L:Nat)(d:TVs)(z:Rt):Rt:=hx [i6,.rc 19] d (fun r=>F128 c L r.1 r.2.1) z
theorem g128(L m:Nat)(d:TVs):Hk 128 h128 L m d:=cK fun r e=>e▸(c128 r.1 r.2.1 L m).symm
def h129(c:TC0)(L:Nat)(d:TVs)(z:Rt):Rt:=hx [zS 5,.str,.str] d (fun r=>F129 c L r.1 r.2.1 r.2.2.1) z
theorem g129(L m:Nat)(d:TVs):Hk 129 h129 L m d:=cK fun r e=>e▸(c129 r.1 r.2.1 r.2.2.1 L m).symm
def h130(c:TC0)(L:Nat)(d:TVs)(z:Rt):Rt:=hx [.rc 2,i6] d (fun r=>F130 c L r.1 r.2.1) z
theorem g130(L m:Nat)(d:TVs):Hk 130 h130 L m d:=cK fun r e=>e▸(c130 r.1 r.2.1 L m).symm
def h135(c:TC0)(L:Nat)(d:TVs)(z:Rt):Rt:=hx [zS 15,.rc 1] d (fun r=>F135 c L r.1 r.2.1) z
theorem g135(L m:Nat)(d:TVs):Hk 135 h135 L m d:=cK fun r e=>e▸(c135 r.1 r.2.1 L m).symm
def h151(c:TC0)(L:Nat)(d:TVs)(z:Rt):Rt:=hx [.str] d (fun r=>F151 c L r.1) z
theorem g151(L m:Nat)(d:TVs):Hk 151 h151 L m d:=cK fun r e=>e▸(c151 r.1 L m).symm
def h155(c:TC0)(L:Nat)(d:TVs)(z:Rt):Rt:=hx [.rc 18,.bool] d (fun r=>F155 c L r.1 r.2.1) z
theorem g155(L m:Nat)(d:TVs):Hk 155 h155 L m d:=cK fun r e=>e▸(c155 r.1 r.2.1 L m).symm
def h159(c:TC0)(L:Nat)(d:TVs)(z:Rt):Rt:=hx [.str] d (fun r=>F159 c L r.1) z
theorem g159(L m:Nat)(d:TVs):Hk 159 h159 L m d:=cK fun r e=>e▸(c159 r.1 L m).symm
def h161(c:TC0)(L:Nat)(d:TVs)(z:Rt):Rt:=hx [zS 5,.str] d (fun r=>F161 c L r.1 r.2.1) z
theorem g161(L m:Nat)(d:TVs):Hk 161 h161 L m d:=cK fun r e=>e▸(c161 r.1 r.2.1 L m).symm
noncomputable def hAll(i:Nat)(c:TC0)(L:Nat)(d:TVs)(z:Rt):Rt:=(bif Nat.beq i 98 then h98 c L d z else bif Nat.blt i 98 then(bif Nat.beq i 63 then h63 c L d z else bif Nat.blt i 63 then(bif Nat.beq i 33 then h33 c L d z else bif Nat.blt i 33 then(bif Nat.beq i 25 then h25 c L d z else bif Nat.blt i 25 then(bif Nat.beq i 10 then h10 c L d z else bif Nat.blt i 10 then(bif Nat.beq i 2 then h2 c L d z else hG i c L d z)else hG i c L d z)else(bif Nat.beq i 31 then h31 c L d z else hG i c L d z))else(bif Nat.beq i 50 then h50 c L d z else bif Nat.blt i 50 then(bif Nat.beq i 48 then h48 c L d z else bif Nat.blt i 48 then(bif Nat.beq i 47 then h47 c L d z else hG i c L d z)else hG i c L d z)else(bif Nat.beq i 62 then h62 c L d z else hG i c L d z)))else(bif Nat.beq i 84 then h84 c L d z else bif Nat.blt i 84 then(bif Nat.beq i 69 then h69 c L d z else bif Nat.blt i 69 then(bif Nat.beq i 68 then h68 c L d z else bif Nat.blt i 68 then(bif Nat.beq i 64 then h64 c L d z else hG i c L d z)else hG i c L d z)else(bif Nat.beq i 70 then h70 c L d z else hG i c L d z))else(bif Nat.beq i 96 then h96 c L d z else bif Nat.blt i 96 then(bif Nat.beq i 94 then h94 c L d z else bif Nat.blt i 94 then(bif Nat.beq i 85 then h85 c L d z else hG i c L d z)else hG i c L d z)else(bif Nat.beq i 97 then h97 c L d z else hG i c L d z))))else(bif Nat.beq i 124 then h124 c L d z else bif Nat.blt i 124 then(bif Nat.beq i 109 then h109 c L d z else bif Nat.blt i 109 then(bif Nat.beq i 104 then h104 c L d z else bif Nat.blt i 104 then(bif Nat.beq i 100 then h100 c L d z else bif Nat.blt i 100 then(bif Nat.beq i 99 then h99 c L d z else hG i c L d z)else hG i c L d z)else(bif Nat.beq i 105 then h105 c L d z else hG i c L d z))else(bif Nat.beq i 122 then h122 c L d z else bif Nat.blt i 122 then(bif Nat.beq i 114 then h114 c L d z else bif Nat.blt i 114 then(bif Nat.beq i 113 then h113 c L d z else hG i c L d z)else hG i c L d z)else(bif Nat.beq i 123 then h123 c L d z else hG i c L d z)))else(bif Nat.beq i 151 then h151 c L d z else bif Nat.blt i 151 then(bif Nat.beq i 130 then h130 c L d z else bif Nat.blt i 130 then(bif Nat.beq i 129 then h129 c L d z else bif Nat.blt i 129 then(bif Nat.beq i 128 then h128 c L d z else hG i c L d z)else hG i c L d z)else(bif Nat.beq i 135 then h135 c L d z else hG i c L d z))else(bif Nat.beq i 159 then h159 c L d z else bif Nat.blt i 159 then(bif Nat.beq i 155 then h155 c L d z else hG i c L d z)else(bif Nat.beq i 161 then h161 c L d z else hG i c L d z)))))
theorem hAll_ok(i L m:Nat)(d:TVs):hAll i (CTp L m) L d (CTp L (m+1) i d)=CTp L (m+1) i d:=(evq (fun e=>(nqE e).symm▸g98 L m d) (evc (evq (fun e=>(nqE e).symm▸g63 L m d) (evc (evq (fun e=>(nqE e).symm▸g33 L m d) (evc (evq (fun e=>(nqE e).symm▸g25 L m d) (evc (evq (fun e=>(nqE e).symm▸g10 L m d) (evc (evq (fun e=>(nqE e).symm▸g2 L m d) (fJ i L m d)) (fJ i L m d))) (evq (fun e=>(nqE e).symm▸g31 L m d) (fJ i L m d)))) (evq (fun e=>(nqE e).symm▸g50 L m d) (evc (evq (fun e=>(nqE e).symm▸g48 L m d) (evc (evq (fun e=>(nqE e).symm▸g47 L m d) (fJ i L m d)) (fJ i L m d))) (evq (fun e=>(nqE e).symm▸g62 L m d) (fJ i L m d)))))) (evq (fun e=>(nqE e).symm▸g84 L m d) (evc (evq (fun e=>(nqE e).symm▸g69 L m d) (evc (evq (fun e=>(nqE e).symm▸g68 L m d) (evc (evq (fun e=>(nqE e).symm▸g64 L m d) (fJ i L m d)) (fJ i L m d))) (evq (fun e=>(nqE e).symm▸g70 L m d) (fJ i L m d)))) (evq (fun e=>(nqE e).symm▸g96 L m d) (evc (evq (fun e=>(nqE e).symm▸g94 L m d) (evc (evq (fun e=>(nqE e).symm▸g85 L m d) (fJ i L m d)) (fJ i L m d))) (evq (fun e=>(nqE e).symm▸g97 L m d) (fJ i L m d)))))))) (evq (fun e=>(nqE e).symm▸g124 L m d) (evc (evq (fun e=>(nqE e).symm▸g109 L m d) (evc (evq (fun e=>(nqE e).symm▸g104 L m d) (evc (evq (fun e=>(nqE e).symm▸g100 L m d) (evc (evq (fun e=>(nqE e).symm▸g99 L m d) (fJ i L m d)) (fJ i L m d))) (evq (fun e=>(nqE e).symm▸g105 L m d) (fJ i L m d)))) (evq (fun e=>(nqE e).symm▸g122 L m d) (evc (evq (fun e=>(nqE e).symm▸g114 L m d) (evc (evq (fun e=>(nqE e).symm▸g113 L m d) (fJ i L m d)) (fJ i L m d))) (evq (fun e=>(nqE e).symm▸g123 L m d) (fJ i L m d)))))) (evq (fun e=>(nqE e).symm▸g151 L m d) (evc (evq (fun e=>(nqE e).symm▸g130 L m d) (evc (evq (fun e=>(nqE e).symm▸g129 L m d) (evc (evq (fun e=>(nqE e).symm▸g128 L m d) (fJ i L m d)) (fJ i L m d))) (evq (fun e=>(nqE e).symm▸g135 L m d) (fJ i L m d)))) (evq (fun e=>(nqE e).symm▸g159 L m d) (evc (evq (fun e=>(nqE e).symm▸g155 L m d) (fJ i L m d)) (evq (fun e=>(nqE e).symm▸g161 L m d) (fJ i L m d))))))))))
end Go.TV
namespace Go.TV
open Go.AI Go.PI Go.Proofs
noncomputable def evB(K:TC0)(up:Nat→TC0)(L:Nat):Nat→TC0
 |0=>up 0
 |n+1=>fun i d=>match K i d with|some r=>some r|none=>hAll i (evB K up L n) L d (up (n+1) i d)
noncomputable def upT(L N:Nat):Nat→TC0:=fun n=>CTp L (N+n)
theorem aC2{K:TC0}{L N:Nat}(hK: ∀n i d r,K i d=some r→CTp L (N+n+1) i d=some r): ∀n,evB K (upT L N) L n=CTp L (N+n)
 |0=>rfl
 |n+1=>by
  funext i d;show(match K i d with|some r=>some r|none=>hAll i (evB K (upT L N) L n) L d (CTp L (N+n+1) i d))=CTp L (N+n+1) i d
  rw[aC2 hK n];split
  ·rename_i r e;exact(hK n i d r e).symm
  ·exact hAll_ok i L (N+n) d
end Go.TV
namespace Go.TV
open Go.AI Go.PI Go.Proofs
set_option maxRecDepth 20000
theorem call_o{P:Program}{T:TP U0.D}{l:List (Nat×Ins)}{i:Nat}{x:Ins}(hx:oK l i=some x)(hs:T.sig i=some x.sig)(hb:(okS T.orc x.sig&&Nat.ble x.sig.bx.length 100&&okBx x.sig.bx.length x.sig.bx)=true)(L n:Nat)(d:TVs){y:OV}(ho:orT U0 T.orc x.sig d=some y):
    yK U0 T (tabL P l) L (n+1) i d=some [ovT U0 y]:=by
 have hg:tabL P l i=some (fC x.sk (lU P x.sig.f),aD6 P x.sig.f):=by simp only[tabL,hx]
 simp only[yK,hs,hg,hb,cdt,ho]
def Kf:TC0:=fun i d=>bif Nat.beq i 179 then(match orT U0 orcI ii179.sig d with|some x=>some [ovT U0 x]|none=>none)else none
noncomputable def cF(L M k:Nat):TC0:=evB Kf (upT (L+7000) M) (L+7000) k
theorem cF_ok(L M k:Nat):cF L M k=CTp (L+7000) (M+k):=aC2 (fun n i d r h=>by
 unfold Kf at h;cases hb:Nat.beq i 179 with
 |false=>rw[hb]at h;cases h
 |true=>
  rw[hb,cdt]at h;split at h
  ·rename_i x hx;simp only[ojE]at h;subst h;rw[nqE hb];exact call_o (x:=ii179) (by kernel_rfl) (by kernel_rfl) (by kernel_rfl) _ _ d hx
  ·cases h) k
def aFl:List UInt8:=[117,115,101,114]
def zrO:G.O:=⟨0,[],[],⟨[],[]⟩,[],[]⟩
def tV(w:List UInt8):G.T:=⟨1,⟨aFl,w⟩,zrO,[]⟩
def tA(f:G.Y)(l:List G.T):G.T:=⟨3,f,zrO,l⟩
def tC(o:G.O):G.T:=⟨2,⟨[],[]⟩,o,[]⟩
def niO:G.O:=⟨2,[],[],⟨eY,[110,105,108]⟩,[],[]⟩
def cnO(a b:G.O):G.O:=⟨4,[],[],⟨[],[]⟩,[],[a,b]⟩
def ObR(x:Rt):Prop:= ∃o:G.O,x=some [yR 2 o]∧osz o+sL o≤20
def nmL(l:List (List UInt8)):Bool:=l.all fun w=>Nat.ble 1 w.length&&Nat.ble w.length 20
theorem nmL_at{l:List (List UInt8)}(h:nmL l=true){w:List UInt8}(hw:w∈l):1≤w.length∧w.length≤20:=by
 have:=List.all_eq_true.1 h w hw;simp only[bjE,Nat.ble_eq]at this;exact this
def chO(r:Rt):Bool:=match r with|some [⟨.rc 2,o⟩]=>Nat.ble (osz o+sL o) 20|_=>false
theorem qC{r:Rt}(h:chO r=true):ObR r:=by
 unfold chO at h;split at h
 ·rename_i o;exact⟨o,rfl,Nat.le_of_ble_eq_true h⟩
 ·cases h
section
variable(L M:Nat)
theorem v_ok(w:List UInt8):cF L M 60 7 [yT w]=some [yR 3 (tV w)]:=by kernel_rfl
theorem l_ok(w:List UInt8)(l:List G.T):cF L M 60 8 [yT w,yS 3 l]=some [yR 3 (tA ⟨eY,w⟩ l)]:=by kernel_rfl
theorem a_ok(f:G.Y)(l:List G.T):cF L M 60 44 [yR 1 f,yS 3 l]=some [yR 3 (tA f l)]:=by kernel_rfl
theorem k_ok(o:G.O):cF L M 60 46 [yR 2 o]=some [yR 3 (tC o)]:=by kernel_rfl
theorem u_ok(w:List UInt8):cF L M 60 13 [yT w]=some [yR 1 ⟨aFl,w⟩]:=by kernel_rfl
theorem s_ok(w:List UInt8):cF L M 60 49 [yT w]=some [yR 1 ⟨eY,w⟩]:=by kernel_rfl
theorem cn_ok(a b:G.O):cF L M 60 82 [yR 2 a,yR 2 b]=some [yR 2 (cnO a b)]:=by kernel_rfl
theorem li0_ok:cF L M 60 83 [yS 2 []]=some [yR 2 niO]:=by kernel_rfl
theorem li1_ok(a:G.O):cF L M 60 83 [yS 2 ([a]:List G.O)]=some [yR 2 (cnO a niO)]:=by kernel_rfl
theorem li2_ok(a b:G.O):cF L M 60 83 [yS 2 ([a,b]:List G.O)]=some [yR 2 (cnO a (cnO b niO))]:=by kernel_rfl
theorem li3_ok(a b d:G.O):cF L M 60 83 [yS 2 ([a,b,d]:List G.O)]=some [yR 2 (cnO a (cnO b (cnO d niO)))]:=by kernel_rfl
theorem ob_n:ObR (cF L M 60 76 []):=qC (by kernel_rfl)
theorem ob_t:ObR (cF L M 60 72 []):=qC (by kernel_rfl)
theorem ob_i(r:Int)(h0:0≤r)(h1:r<7):ObR (cF L M 60 77 [yI (IntKind.i64.wrap (r-3))]):=by
 obtain rfl|rfl|rfl|rfl|rfl|rfl|rfl:r=0∨r=1∨r=2∨r=3∨r=4∨r=5∨r=6:=by omega
 all_goals exact qC (by kernel_rfl)
theorem ob_0:ObR (cF L M 60 77 [yI (0:Int)]):=qC (by kernel_rfl)
theorem ob_1:ObR (cF L M 60 77 [yI (1:Int)]):=qC (by kernel_rfl)
theorem ob_q1:ObR (cF L M 60 79 [yT ([49]:List UInt8),yT ([50]:List UInt8)]):=qC (by kernel_rfl)
theorem ob_q2:ObR (cF L M 60 79 [yT ([45,53]:List UInt8),yT ([51]:List UInt8)]):=qC (by kernel_rfl)
theorem ob_s1(y:G.Y)(h:kX y=true):ObR (cF L M 60 80 [yR 1 y]):=⟨⟨2,[],[],y,[],[]⟩,by kernel_rfl,by simp[osz,mD,badO_y,wS,h,sK]⟩
theorem ob_x(w:List UInt8)(h:okX w=true):ObR (cF L M 60 81 [yT w]):=⟨⟨3,[],[],⟨[],[]⟩,w,[]⟩,by kernel_rfl,by simp[osz,mD,badO_x,h,bad0x3]⟩
theorem hd_ok: ∃l:List (List UInt8),cF L M 60 47 []=some [⟨.sl .str,l⟩]∧l.length=25∧nmL l=true:=⟨match B47x0 (fun _ _=>none)with|some (⟨.sl .str,t⟩::_)=>t|_=>[],by kernel_rfl,by kernel_rfl,by kernel_rfl⟩
theorem ow_ok: ∃l:List (List UInt8),cF L M 60 48 []=some [⟨.sl .str,l⟩]∧l.length=8∧nmL l=true:=⟨match B48x0 (fun _ _=>none)with|some (⟨.sl .str,t⟩::_)=>t|_=>[],by kernel_rfl,by kernel_rfl,by kernel_rfl⟩
end
structure Lib(c:TC0):Prop where
 v: ∀w,c 7 [yT w]=some [yR 3 (tV w)]
 l: ∀w (l:List G.T),c 8 [yT w,yS 3 l]=some [yR 3 (tA ⟨eY,w⟩ l)]
 a: ∀(f:G.Y) (l:List G.T),c 44 [yR 1 f,yS 3 l]=some [yR 3 (tA f l)]
 k: ∀o:G.O,c 46 [yR 2 o]=some [yR 3 (tC o)]
 u: ∀w,c 13 [yT w]=some [yR 1 (⟨aFl,w⟩:G.Y)]
 s: ∀w,c 49 [yT w]=some [yR 1 (⟨eY,w⟩:G.Y)]
 cn: ∀a b:G.O,c 82 [yR 2 a,yR 2 b]=some [yR 2 (cnO a b)]
 l0:c 83 [yS 2 ([]:List G.O)]=some [yR 2 niO]
 l1: ∀a:G.O,c 83 [yS 2 ([a]:List G.O)]=some [yR 2 (cnO a niO)]
 l2: ∀a b:G.O,c 83 [yS 2 ([a,b]:List G.O)]=some [yR 2 (cnO a (cnO b niO))]
 l3: ∀a b d:G.O,c 83 [yS 2 ([a,b,d]:List G.O)]=some [yR 2 (cnO a (cnO b (cnO d niO)))]
 n:ObR (c 76 [])
 t:ObR (c 72 [])
 i: ∀r:Int,0≤r→r<7→ObR (c 77 [yI (IntKind.i64.wrap (r-3))])
 i0:ObR (c 77 [yI (0:Int)])
 i1:ObR (c 77 [yI (1:Int)])
 q1:ObR (c 79 [yT ([49]:List UInt8),yT ([50]:List UInt8)])
 q2:ObR (c 79 [yT ([45,53]:List UInt8),yT ([51]:List UInt8)])
 sy: ∀y:G.Y,kX y=true→ObR (c 80 [yR 1 y])
 x: ∀w,okX w=true→ObR (c 81 [yT w])
 hd: ∃l:List (List UInt8),c 47 []=some [⟨.sl .str,l⟩]∧l.length=25∧nmL l=true
 ow: ∃l:List (List UInt8),c 48 []=some [⟨.sl .str,l⟩]∧l.length=8∧nmL l=true
 nx: ∀(s:G.Z) (a:Int),bK s→1≤a→NxR (c 16 [yI a,yR 0 s]) a
theorem lib_ok(L M:Nat):Lib (CTp (L+7000) (M+60)):=by
 have h: ∀(s:G.Z) (a:Int),bK s→1≤a→NxR (CTp (L+7000) (M+60) 16 [yI a,yR 0 s]) a:=fun s a h1 h2=>Nx_ok (n:=M+59) h1 h2
 rw[←cF_ok]at h⊢;exact⟨v_ok L M,l_ok L M,a_ok L M,k_ok L M,u_ok L M,s_ok L M,cn_ok L M,li0_ok L M,li1_ok L M,li2_ok L M,li3_ok L M,ob_n L M,ob_t L M,ob_i L M,ob_0 L M,ob_1 L M,ob_q1 L M,ob_q2 L M,ob_s1 L M,ob_x L M,hd_ok L M,ow_ok L M,h⟩
end Go.TV
namespace Go.TV
open Go.AI Go.PI Go.Proofs
def OSR(x:Rt)(B:Nat):Prop:= ∃(o:G.O) (s:G.Z),x=some [yR 2 o,yR 0 s]∧osz o+sL o≤B∧bK s
theorem aDf:badO 2 [] [] ⟨eY,[110,105,108]⟩ [] []=0:=rfl
theorem OSR.mk{o:G.O}{s:G.Z}{B:Nat}(h:osz o+sL o≤B)(hs:bK s):OSR (some [yR 2 o,yR 0 s]) B:=⟨o,s,rfl,h,hs⟩
theorem OSR.le{x:Rt}{A B:Nat}(h:OSR x A)(hl:A≤B):OSR x B:=by obtain⟨o,s,h1,h2,h3⟩:=h;exact⟨o,s,h1,by omega,h3⟩
theorem aEj{β:Type}{a:G.O}{K:G.O×Unit→Option β}:obL (D:=U0.D) [.rc 2] (some [yR 2 a]) K=K (a,()):=rfl
theorem aCz{β:Type}{a:G.O}{b:G.Z}{K:G.O×G.Z×Unit→Option β}:obL (D:=U0.D) [.rc 2,.rc 0] (some [yR 2 a,yR 0 b]) K=K (a,b,()):=rfl
theorem obL_ys{β:Type}{a:G.Y}{K:G.Y×Unit→Option β}:obL (D:=U0.D) [.rc 1] (some [yR 1 a]) K=K (a,()):=rfl
theorem vL{α:Type}{l:List α}{lo hi:Int}(h0:0≤lo)(h1:lo≤hi)(h2:hi≤(l.length:Int)): ∃w,slc l lo hi=some w∧(w.length:Int)=hi-lo:=by
 unfold slc;have e1:decide (0≤lo)=true:=by simpa using h0
 have e2:decide (lo≤hi)=true:=by simpa using h1
 have e3:decide (hi≤(l.length:Int))=true:=by simpa using h2
 rw[e1,e2,e3];refine⟨_,rfl,?_⟩;rw[List.length_drop,List.length_take];omega
section
variable{c:TC0}(h:Lib c)
include h
theorem Ob_lo{L:Nat}{s:G.Z}(hs:bK s){a5 a1:Int}{b:G.O}(h0:0≤a5)(h9:a5≤9):OSR (aIS c L a5 a1 s b) 20:=by
 have seven: ∀K:Int×G.Z×Unit→Rt,(∀r s',0≤r→r<7→bK s'→OSR (K (r,s',())) 20)→OSR (obL (D:=U0.D) [.int .i64,.rc 0] (c 16 [yI (7:Int),yR 0 s]) K) 20:=fun K hK=>by
  obtain⟨r,s',e,g1,g2,g3⟩:=h.nx s 7 hs (by omega)
  rw[e,fS];exact hK r s' g1 g2 g3
 have three: ∀K:Int×G.Z×Unit→Rt,(∀r s',0≤r→r<3→bK s'→OSR (K (r,s',())) 20)→OSR (obL (D:=U0.D) [.int .i64,.rc 0] (c 16 [yI (3:Int),yR 0 s]) K) 20:=fun K hK=>by
  obtain⟨r,s',e,g1,g2,g3⟩:=h.nx s 3 hs (by omega)
  rw[e,fS];exact hK r s' g1 g2 g3
 have obj: ∀{x:Rt} {s':G.Z},ObR x→bK s'→OSR (obL (D:=U0.D) [.rc 2] x fun(r:G.O×Unit)=>some [yR 2 r.1,yR 0 s']) 20:=fun hx hs'=>by
  obtain⟨o,e,g⟩:=hx;rw[e,aEj];exact .mk g hs'
 rw[aIS,B45x2];obtain rfl|rfl|rfl|rfl|rfl|rfl|rfl|rfl|rfl|rfl:a5=0∨a5=1∨a5=2∨a5=3∨a5=4∨a5=5∨a5=6∨a5=7∨a5=8∨a5=9:=by omega
 ·exact obj h.n hs
 ·exact obj h.t hs
 ·exact seven _ fun r s' g1 g2 g3=>obj (h.i r g1 g2) g3
 ·exact seven _ fun r s' g1 g2 g3=>obj (h.i r g1 g2) g3
 ·exact obj h.q1 hs
 ·exact obj h.q2 hs
 ·refine three _ fun r s' g1 g2 g3=>?_
  obtain⟨w,e1,l1⟩:=vL (l:=([97,98,99]:List UInt8)) (hi:=3) g1 (by omega) (by decide)
  obtain⟨w2,e2,l2⟩:=vL (l:=w) (lo:=0) (hi:=1) (by omega) (by omega) (by omega)
  show OSR (ob (slc ([97,98,99]:List UInt8) r 3) fun v5=>ob (slc v5 (0:Int) (1:Int)) fun v6=>obL (D:=U0.D) [.rc 1] (c 13 [yT v6]) fun(r7:G.Y×Unit)=>obL (D:=U0.D) [.rc 2] (c 80 [yR 1 r7.1]) fun(r8:G.O×Unit)=>some [yR 2 r8.1,yR 0 s']) 20
  rw[e1,bW,e2,bW,h.u,obL_ys];exact obj (h.sy _ (okSy_u (by omega) (by omega))) g3
 ·refine three _ fun r s' g1 g2 g3=>?_
  obtain⟨w,e1,l1⟩:=vL (l:=([112,113]:List UInt8)) (lo:=0) (hi:=r) (by omega) g1 (by show r≤2;omega)
  show OSR (ob (slc ([112,113]:List UInt8) 0 r) fun v10=>obL (D:=U0.D) [.rc 2] (c 81 [yT v10]) fun(r11:G.O×Unit)=>some [yR 2 r11.1,yR 0 s']) 20
  rw[e1,bW];exact obj (h.x _ (by simp only[okX,Nat.ble_eq];omega)) g3
 ·exact obj h.i0 hs
 ·exact obj h.i1 hs
theorem Ob0{L:Nat}{s:G.Z}(hs:bK s):OSR (F45 c L 0 s) 20:=by
 rw[F45,B45x0];obtain⟨r,s',e,g1,g2,g3⟩:=h.nx s 14 hs (by omega)
 rw[e,fS];show OSR (aEQ c L (decide ((9:Int)<r)) r 0 s' _) 20;rw[aEQ,B45x1];cases e2:decide ((9:Int)<r)with
 |true=>
  simp only[djE]at e2;obtain⟨m,rfl⟩: ∃m:Nat,r=((m+8:Nat):Int):=⟨(r-8).toNat,by omega⟩
  rw[aF,show((m+8:Nat):Int)-8=(m:Int) by omega,wrapn (by omega)]
  exact Ob_lo h g3 (by omega) (by omega)
 |false=>
  simp only[dfN]at e2;exact Ob_lo h g3 g1 (by omega)
theorem Ol_loop{L:Nat}(h0: ∀s,bK s→OSR (c 45 [yI (0:Int),yR 0 s]) 20){b:G.O}{r:Nat}(hr:r≤3):
    ∀(j k m:Nat) (a6:List G.O) (s:G.Z),r=k+j→a6.length=k→mD a6≤21*k→j<m→bK s→OSR (aBD c L m (r:Int) 1 (k:Int) a6 s b) 200:=by
 intro j;induction j with
 |zero=>
  intro k m a6 s h1 h2 h3 h4 hs;obtain⟨m,rfl⟩: ∃m',m=m'+1:=⟨m-1,by omega⟩
  have e3:decide ((k:Int)<(r:Int))=false:=by simp;omega
  rw[aBD,B45x5,e3,aE]
  match a6,h2 with
  |[],_=>rw[h.l0,aEj];exact .mk (by simp[niO,osz,mD,aDf,sK]) hs
  |[a],h2=>rw[h.l1,aEj];exact .mk (by simp[mD]at h3;simp[niO,cnO,osz,mD,aDf,aDg,sK,aDh];simp only[lcS,lnN]at h2;omega) hs
  |[a,d],h2=>rw[h.l2,aEj];exact .mk (by simp[mD]at h3;simp[niO,cnO,osz,mD,aDf,aDg,sK,aDh];simp only[lcS,lnN]at h2;omega) hs
  |[a,d,e],h2=>rw[h.l3,aEj];exact .mk (by simp[mD]at h3;simp[niO,cnO,osz,mD,aDf,aDg,sK,aDh];simp only[lcS,lnN]at h2;omega) hs
  |_::_::_::_::l,h2=>simp at h2;omega
 |succ j ih=>
  intro k m a6 s h1 h2 h3 h4 hs;obtain⟨m,rfl⟩: ∃m',m=m'+1:=⟨m-1,by omega⟩
  have e3:decide ((k:Int)<(r:Int))=true:=by simp;omega
  rw[aBD,B45x5,e3,aF];obtain⟨o,s',e,g1,g2⟩:=h0 s hs;show OSR (obL (D:=U0.D) [.rc 2,.rc 0] (c 45 [yI (0:Int),yR 0 s]) _) 200;rw[e,aCz];have e4:Nat.ble ((a6.length+([o]:List G.O).length)*112) 1073741824=true:=by
   rw[Nat.ble_eq];simp only[lcS,lnN];omega
  simp only[e4,qB];rw[cR (by omega)]
  have hz: ∀l:List G.O,mD (l++ [o])=mD l+(osz o+sL o)+1:=by
   intro l;induction l with
   |nil=>simp[mD]
   |cons x l ih=>simp only[cnA,mD,ih];omega
  exact ih (k+1) m (a6++ [o]) s' (by omega) (by simp;omega) (by rw[hz];omega) (by omega) g2
theorem Ob1{L:Nat}(hL:10≤L)(h0: ∀s,bK s→OSR (c 45 [yI (0:Int),yR 0 s]) 20){s:G.Z}(hs:bK s):OSR (F45 c L 1 s) 200:=by
 rw[F45,B45x0];obtain⟨r,s',e,g1,g2,g3⟩:=h.nx s 14 hs (by omega)
 rw[e,fS];show OSR (aEQ c L false r 1 s' _) 200;rw[aEQ,B45x1,aE];by_cases h9:r≤9
 ·exact(Ob_lo h g3 g1 h9).le (by omega)
 have lst: ∀b,OSR (aEP c L true 1 s' b) 200:=fun b=>by
  rw[aEP,B45x4,aF];obtain⟨q,s2,e,k1,k2,k3⟩:=h.nx s' 4 g3 (by omega)
  rw[e,fS];obtain⟨m,rfl⟩: ∃m:Nat,q=(m:Int):=⟨q.toNat,by omega⟩
  exact Ol_loop h h0 (by omega) m 0 L [] s2 (by omega) rfl (Nat.zero_le _) (by omega) k3
 rw[aIS,B45x2];obtain rfl|rfl|rfl|rfl:r=10∨r=11∨r=12∨r=13:=by omega
 ·exact lst _
 ·exact lst _
 ·exact lst _
 ·have pr: ∀b,OSR (aEP c L false 1 s' b) 200:=fun b=>by
   rw[aEP,B45x4,aE];obtain⟨o,s2,e,k1,k2⟩:=h0 s' g3;show OSR (obL (D:=U0.D) [.rc 2,.rc 0] (c 45 [yI (0:Int),yR 0 s']) _) 200;rw[e,aCz];obtain⟨o2,s3,e,k3,k4⟩:=h0 s2 k2;show OSR (obL (D:=U0.D) [.rc 2,.rc 0] (c 45 [yI (0:Int),yR 0 s2]) _) 200;rw[e,aCz,h.cn,aEj];exact .mk (by simp[cnO,osz,mD,aDg,aDh];omega) k4
  exact pr zrO
end
end Go.TV
namespace Go.TV
open Go.AI Go.PI Go.Proofs
def TSR(x:Rt)(B:Nat):Prop:= ∃(t:G.T) (s:G.Z),x=some [yR 3 t,yR 0 s]∧tsz t≤B∧bK s
theorem TSR.mk{o:G.T}{s:G.Z}{B:Nat}(h:tsz o≤B)(hs:bK s):TSR (some [yR 3 o,yR 0 s]) B:=⟨o,s,rfl,h,hs⟩
theorem TSR.le{x:Rt}{A B:Nat}(h:TSR x A)(hl:A≤B):TSR x B:=by obtain⟨o,s,h1,h2,h3⟩:=h;exact⟨o,s,h1,by omega,h3⟩
theorem cV{β:Type}{a:G.T}{K:G.T×Unit→Option β}:obL (D:=U0.D) [.rc 3] (some [yR 3 a]) K=K (a,()):=rfl
theorem fR{β:Type}{a:G.T}{b:G.Z}{K:G.T×G.Z×Unit→Option β}:obL (D:=U0.D) [.rc 3,.rc 0] (some [yR 3 a,yR 0 b]) K=K (a,b,()):=rfl
theorem obL_ss{β:Type}{a:List (List UInt8)}{K:List (List UInt8)×Unit→Option β}:obL (D:=U0.D) [.sl .str] (some [⟨.sl .str,a⟩]) K=K (a,()):=rfl
theorem obL_y1{β:Type}{a:G.Y}{K:G.Y×Unit→Option β}:obL (D:=U0.D) [.rc 1] (some [yR 1 a]) K=K (a,()):=rfl
theorem badT_v(n:G.Y)(h:okV n=true):aBq 1 n zrO []=0:=by
 unfold aBq okTm;rw[h];rfl
def wtA(f:G.Y)(l:List G.T):Nat:=bif kX f&&Nat.ble l.length 8 then 0 else 1000000000
theorem wtA_ok{f:G.Y}{l:List G.T}(h:kX f=true)(hl:l.length≤8):wtA f l=0:=by
 unfold wtA;rw[h,Nat.ble_eq_true_of_le hl];rfl
theorem badT_a(n:G.Y)(l:List G.T):aBq 3 n zrO l=wtA n l:=by
 unfold aBq okTm wtA;cases kX n<;>cases Nat.ble l.length 8<;>rfl
theorem wtAs:(∀f a,wtA f [a]=wS f)∧(∀f a b,wtA f [a,b]=wS f)∧wS ⟨eY,[110,111,116]⟩=0∧wS ⟨eY,[101,113,117,97,108]⟩=0∧wS ⟨eY,[99,111,110,115,112]⟩=0∧wS ⟨eY,[99,111,110,115]⟩=0∧wS ⟨eY,[60]⟩=0:=
 ⟨fun f a=>by unfold wtA wS;cases kX f<;>rfl,fun f a b=>by unfold wtA wS;cases kX f<;>rfl,rfl,rfl,rfl,rfl,rfl⟩
theorem badT_c(o:G.O):aBq 2 ⟨[],[]⟩ o []=sL o:=by
 unfold aBq okTm sL;cases decide (o.kind=0)<;>rfl
theorem zrO_sz:osz zrO=2:=rfl
theorem tV_sz(w:List UInt8)(h1:1≤w.length)(h2:w.length≤20):tsz (tV w)=6:=by
 have h:aBq 1 ⟨aFl,w⟩ zrO []=0:=badT_v ⟨aFl,w⟩ (okV_u h1 h2);simp only[tV,tsz,bI,h,zrO_sz]
theorem qT(f:G.Y)(l:List G.T):tsz (tA f l)=6+bI l+wtA f l:=by simp only[tA,tsz,badT_a,zrO_sz]
theorem tC_sz(o:G.O):tsz (tC o)=4+(osz o+sL o):=by simp only[tC,tsz,bI,badT_c];omega
theorem tsz'_app(l:List G.T)(t:G.T):bI (l++ [t])=bI l+tsz t+1:=by
 induction l with
 |nil=>simp[bI]
 |cons x l ih=>simp only[cnA,bI,ih];omega
section
variable{c:TC0}(h:Lib c)
include h
theorem Va_ok{L:Nat}{s:G.Z}(hs:bK s):TSR (F17 c L s) 6:=by
 rw[F17,B17x0];obtain⟨r,s',e,g1,g2,g3⟩:=h.nx s 3 hs (by omega)
 rw[e,fS];obtain⟨w,e1,l1⟩:=vL (l:=([120,121,122]:List UInt8)) (hi:=3) g1 (by omega) (by decide)
 obtain⟨w2,e2,l2⟩:=vL (l:=w) (lo:=0) (hi:=1) (by omega) (by omega) (by omega)
 show TSR (ob (slc ([120,121,122]:List UInt8) r 3) fun v1=>ob (slc v1 (0:Int) (1:Int)) fun v2=>obL (D:=U0.D) [.rc 3] (c 7 [yT v2]) fun(r3:G.T×Unit)=>some [yR 3 r3.1,yR 0 s']) 6
 rw[e1,bW,e2,bW,h.v,cV];exact .mk (by rw[tV_sz _ (by omega) (by omega)];omega) g3
theorem Ta_loop{L:Nat}{E:List G.E}{d:Int}{B:Nat}(hB:B<1000000)(hr: ∀s,bK s→TSR (c 14 [yS 15 E,yI (IntKind.i64.wrap (d-1)),yR 0 s]) B){f:G.Y}(hf:kX f=true){b:G.T}{r:Nat}(h3:r≤3):
    ∀(j k m:Nat) (a:List G.T) (s:G.Z),r=k+j→a.length=k→bI a≤(B+1)*k→j<m→bK s→TSR (aBI c L m (r:Int) E d (k:Int) a s f b) (6+3*(B+1)):=by
 intro j;induction j with
 |zero=>
  intro k m a s h1 h2 h4 h5 hs;obtain⟨m,rfl⟩: ∃m',m=m'+1:=⟨m-1,by omega⟩
  have e3:decide ((k:Int)<(r:Int))=false:=by simp;omega
  rw[aBI,B14x4,e3,aE,h.a,cV];refine .mk ?_ hs;have:(B+1)*k≤(B+1)*3:=Nat.mul_le_mul_left _ (by omega)
  rw[qT,wtA_ok hf (by omega)];omega
 |succ j ih=>
  intro k m a s h1 h2 h4 h5 hs;obtain⟨m,rfl⟩: ∃m',m=m'+1:=⟨m-1,by omega⟩
  have e3:decide ((k:Int)<(r:Int))=true:=by simp;omega
  obtain⟨t,s',e,g1,g2⟩:=hr s hs;rw[aBI,B14x4,e3,aF,e,fR];have e4:Nat.ble ((a.length+([t]:List G.T).length)*176) 1073741824=true:=by
   rw[Nat.ble_eq];simp only[lcS,lnN];omega
  simp only[e4,qB];rw[cR (by omega)]
  refine ih (k+1) m (a++ [t]) s' (by omega) (by simp;omega) ?_ (by omega) g2
  rw[tsz'_app,Nat.mul_add];omega
theorem Te_ok{L:Nat}(hL:10≤L){E:List G.E}{d:Int}{B:Nat}(hB:B<1000000)(hB2:204≤B)(hv: ∀s,bK s→TSR (c 17 [yR 0 s]) 6)(ho: ∀s,bK s→OSR (c 45 [yI (1:Int),yR 0 s]) 200)
    (ha: ∀f:G.Y,ArR (c 50 [yS 15 E,yR 1 f])) (hr:1≤d→∀s,bK s→TSR (c 14 [yS 15 E,yI (IntKind.i64.wrap (d-1)),yR 0 s]) B) {s:G.Z} (hs:bK s):
    TSR (F14 c L E d s) (bif decide (d<1)then 204 else 6+3*(B+1)):=by
 have lo: ∀(a7:Int) (s':G.Z) (b:G.T),a7≤3→bK s'→TSR (aIZ c L a7 E d s' b) 204:=fun a7 s' b g1 g2=>by
  rw[aIZ,B14x2];cases e1:decide (a7<(3:Int))with
  |true=>
   obtain⟨t,s2,e,q1,q2⟩:=hv s' g2;rw[aF,e,fR];exact .mk (by show tsz t≤204;omega) q2
  |false=>
   simp only[dfN]at e1;have e2:decide (a7=(3:Int))=true:=by simp;omega
   obtain⟨o,s2,e,q1,q2⟩:=ho s' g2;rw[aE,e2,aF,e,aCz,h.k,cV];exact .mk (by show tsz (tC o)≤204;rw[tC_sz];omega) q2
 obtain⟨r,s',e,g1,g2,g3⟩:=h.nx s 12 hs (by omega)
 rw[F14,B14x0,e,fS];cases e1:decide (d<(1:Int))with
 |true=>
  rw[aF,cdt];show TSR (aEU c L (decide ((3:Int)<r)) r E d s' _) _;rw[aEU,B14x1];cases e2:decide ((3:Int)<r)with
  |true=>
   rw[aF,show decide ((4:Int)=0)=false by decide]
   simp only[Bool.not_false,qB];exact lo _ _ _ (by have:=Int.tmod_lt_of_pos r (b:=4) (by omega);omega) g3
  |false=>
   simp only[dfN]at e2;exact lo _ _ _ (by omega) g3
 |false=>
  rw[aE,cdf];simp only[dfN]at e1;show TSR (aEU c L false r E d s' _) _;rw[aEU,B14x1,aE];by_cases h4:r≤3
  ·exact(lo _ _ _ h4 g3).le (by omega)
  have jn: ∀(s2:G.Z) (f:G.Y) (b:G.T),kX f=true→bK s2→TSR (J14x3 c L E d s2 f b) (6+3*(B+1)):=fun s2 f b hf k1=>by
   obtain⟨k,b2,e,k2⟩:=ha f;rw[J14x3,B14x3,e,aCB];exact Ta_loop h hB (hr (by omega)) hf k2 k 0 L [] s2 (by omega) rfl (Nat.zero_le _) (by omega) k1
  have e2:decide (r<(3:Int))=false:=by simp;omega
  have e3:decide (r=(3:Int))=false:=by simp;omega
  obtain⟨lh,eh,hh,nh⟩:=h.hd;obtain⟨lw,ew,hw,nw⟩:=h.ow;obtain⟨q,s2,e4,k1,k2,k3⟩:=h.nx s' 4 g3 (by omega)
  rw[aIZ,B14x2,e2,aE,e3,aE,eh,obL_ss,ew,obL_ss,e4,fS];cases e5:decide (q<(3:Int))with
  |true=>
   obtain⟨i,s3,e6,k4,k5,k6⟩:=h.nx s2 (lh.length:Int) k3 (by omega)
   obtain⟨m,rfl⟩: ∃m:Nat,i=(m:Int):=⟨i.toNat,by omega⟩
   have hm:lh[m]?=some (lh[m]'(by omega)):=geG _
   simp only[aF];rw[e6,fS];simp only[aJ,hm,bW];rw[h.s,obL_y1];have hz:=nmL_at nh (List.getElem_mem (l:=lh) (n:=m) (by omega))
   exact jn _ _ _ (okSy_l hz.1 hz.2) k6
  |false=>
   obtain⟨i,s3,e6,k4,k5,k6⟩:=h.nx s2 (lw.length:Int) k3 (by omega)
   obtain⟨m,rfl⟩: ∃m:Nat,i=(m:Int):=⟨i.toNat,by omega⟩
   have hm:lw[m]?=some (lw[m]'(by omega)):=geG _
   simp only[aE];rw[e6,fS];simp only[aJ,hm,bW];rw[h.u,obL_y1];have hz:=nmL_at nw (List.getElem_mem (l:=lw) (n:=m) (by omega))
   exact jn _ _ _ (okSy_u hz.1 hz.2) k6
theorem Li_ok{L:Nat}{E:List G.E}{A B:Nat}(hv: ∀s,bK s→TSR (c 17 [yR 0 s]) 6)
    (h2: ∀s,bK s→TSR (c 14 [yS 15 E,yI (2:Int),yR 0 s]) A) (h1: ∀s,bK s→TSR (c 14 [yS 15 E,yI (1:Int),yR 0 s]) B) {s:G.Z} (hs:bK s):
    TSR (F51 c L E 2 s) (A+B+30):=by
 obtain⟨t,s2,e,g1,g2⟩:=h2 s hs;obtain⟨r,s3,e2,k1,k2,k3⟩:=h.nx s2 8 g2 (by omega)
 rw[F51,B51x0,e,fR,e2,fS];have key: ∀(a:Bool) (b:G.T),TSR (J51x1 c L a r E 2 s3 t b) (A+B+30):=fun a b=>by
  rw[J51x1,B51x1];cases a with
  |true=>
   rw[aF,h.l,cV];exact .mk (by simp only[qT,bI,wtAs];omega) k3
  |false=>
   rw[aE];cases decide (r=(2:Int))with
   |true=>
    obtain⟨t2,s4,e,q1,q2⟩:=h1 s3 k3;rw[aF];show TSR (obL (D:=U0.D) [.rc 3,.rc 0] (c 14 [yS 15 E,yI (1:Int),yR 0 s3]) _) _;rw[e,fR];simp only[];rw[h.l,cV];simp only[];rw[h.l,cV];exact .mk (by simp only[qT,bI,wtAs];omega) q2
   |false=>
    rw[aE];cases decide (r=(3:Int))with
    |true=>
     obtain⟨t2,s4,e,q1,q2⟩:=hv s3 k3;rw[aF,e,fR];simp only[];rw[h.l,cV];simp only[];rw[h.l,cV];exact .mk (by simp only[qT,bI,wtAs];omega) q2
    |false=>
     rw[aE];cases decide (r=(4:Int))with
     |true=>
      obtain⟨t2,s4,e,q1,q2⟩:=h1 s3 k3;rw[aF];show TSR (obL (D:=U0.D) [.rc 3,.rc 0] (c 14 [yS 15 E,yI (1:Int),yR 0 s3]) _) _;rw[e,fR];simp only[];rw[h.l,cV];exact .mk (by simp only[qT,bI,wtAs];omega) q2
     |false=>
      rw[aE];cases decide (r=(5:Int))with
      |true=>
       obtain⟨t1,s4,e,q1,q2⟩:=hv s3 k3;rw[aF,e,fR];obtain⟨t2,s5,e,q3,q4⟩:=h1 s4 q2;show TSR (obL (D:=U0.D) [.rc 3,.rc 0] (c 14 [yS 15 E,yI (1:Int),yR 0 s4]) _) _;rw[e,fR];simp only[];rw[h.l,cV];simp only[];rw[h.l,cV];exact .mk (by simp only[qT,bI,wtAs];omega) q4
      |false=>exact .mk (by omega) k3
 cases decide (r=(0:Int))with
 |true=>exact key _ _
 |false=>exact key _ _
end
def ClR(x:Rt)(B:Nat):Prop:= ∃(l:List G.T) (s:G.Z),x=some [yS 3 l,yR 0 s]∧bI l≤B∧bK s
theorem obL_cs{β:Type}{a:List G.T}{b:G.Z}{K:List G.T×G.Z×Unit→Option β}:obL (D:=U0.D) [.sl (.rc 3),.rc 0] (some [yS 3 a,yR 0 b]) K=K (a,b,()):=rfl
end Go.TV
namespace Go.TV
open Go.AI Go.PI Go.Proofs
theorem wrapm{k:Nat}(h:k<4000000000000000000):IntKind.i64.wrap (((k+1:Nat):Int)-1)=(k:Int):=by
 unfold IntKind.wrap;simp[IntKind.bits,IntKind.signed];omega
theorem EqP_loop{c:TC0}{L:Nat}{n1:G.O→G.O→Rt}{a b:G.O}(hl:a.pair.length=b.pair.length)(hb:a.pair.length<1000000000)
    {s:Nat} (hs:a.pair.length=s+1): ∀(l:List G.O) (x:G.O) (r:List G.O) (k m:Nat),a.pair.drop k=x::l→b.pair.drop k=r→l.length<m→
    (∀x,x∈a.pair→∀y,c 65 (oo x y)=some (bb (decide (x=y))))→(∀x,x∈a.pair→∀y,n1 x y=some (bb (decide (x=y))))→
    aBA c L n1 m (s:Int) (k:Int) ((s+1:Nat):Int) a b=some (bb (decide (x::l=r))):=by
 intro l;induction l with
 |nil=>
  intro x r k m h1 h2 h3 hc hn;obtain⟨m,rfl⟩: ∃m',m=m'+1:=⟨m-1,by simp at h3;omega⟩
  obtain⟨a1,a2,a3⟩:=aO h1;have hk:k=s:=by have:=aN a3;omega
  subst hk;cases r with
  |nil=>have:=aN h2;omega
  |cons y r=>
   obtain⟨b1,b2,b3⟩:=aO h2;have hr:r=[]:=by rw[←b3];exact List.drop_eq_nil_of_le (by omega)
   subst hr;have e3:decide ((k:Int)<(k:Int))=false:=by simp
   rw[aBA,B65x3,e3,aE,wrapm (by omega),aJ,aJ,a1,b1,bW,bW,hn x (List.mem_of_getElem? a1)]
   simp
 |cons z l ih=>
  intro x r k m h1 h2 h3 hc hn;obtain⟨m,rfl⟩: ∃m',m=m'+1:=⟨m-1,by simp at h3;omega⟩
  obtain⟨a1,a2,a3⟩:=aO h1;obtain⟨a4,a5,a6⟩:=aO a3;cases r with
  |nil=>have:=aN h2;omega
  |cons y r=>
   obtain⟨b1,b2,b3⟩:=aO h2;have e3:decide ((k:Int)<(s:Int))=true:=by simp;omega
   have hxy:c 65 [yR 2 x,yR 2 y]=some [yB (decide (x=y))]:=hc x (List.mem_of_getElem? a1) y;rw[aBA,B65x3,e3,aF,aJ,aJ,a1,b1,bW,bW,hxy,bB,cR (by omega)]
   by_cases e:x=y
   ·subst e;simp only[decide_true,bnT,aE];rw[ih z r (k+1) m a3 b3 (by simp at h3;omega) hc hn]
    simp
   ·simp only[e,decide_false,Bool.not_false,aF];simp[e,bb]
theorem EqW_ok: ∀(a:G.O),wfO a→∀(b:G.O) (L n m:Nat),osz a≤L→osz a≤n→osz a≤m→yV (CTp L n) L m a b=some (bb (decide (a=b))):=by
 intro a;induction a using kI with
 |h k nu d s t l ih=>
  intro hw b L n m hL hn hm;simp only[wfO,osz]at hw hL hn hm;have hlen:=aAl l;obtain⟨m,rfl⟩: ∃n',m=n'+1:=⟨m-1,by omega⟩
  obtain⟨n,rfl⟩: ∃n',n=n'+1:=⟨n-1,by omega⟩
  cases b with|mk k' nu' d' s' t' l'=>
  rw[yV];simp only[J65x2,B65x1,B65x2,G.O.kind,G.O.num,G.O.den,G.O.sym,G.O.text,G.O.pair,G.O.mk.injEq];by_cases e1:k=k'
  ·by_cases e2:nu=nu'
   ·by_cases e3:d=d'
    ·by_cases e4:s=s'
     ·by_cases e5:t=t'
      ·by_cases e6:(l.length:Int)=(l'.length:Int)
       ·simp only[e1,e2,e3,e4,e5,e6,decide_true,bnT,aE,aF,true_and];cases l with
        |nil=>
         have:l'=[]:=List.eq_nil_of_length_eq_zero (by simp at e6;omega)
         subst this;simp[cnd,bb]
        |cons x l=>
         have e7:decide ((l'.length:Int)=0)=false:=by simp only[lcS]at e6;simp;intro h;simp[h]at e6;omega
         rw[e7,aE,←e6];have hW: ∀y,y∈x::l→∀z,yV (CTp L (n+1)) L m y z=some (bb (decide (y=z))):=fun y hy z=>
          ih y hy (by have:=eX hy;simp only[wfO];omega) z L (n+1) m (by have:=eX hy;omega) (by have:=eX hy;omega) (by have:=eX hy;omega)
         have hC: ∀y,y∈x::l→∀z,CTp L (n+1) 65 (oo y z)=some (bb (decide (y=z))):=fun y hy z=>by
          show CTp L (n+1) 65 [yR 2 _,yR 2 _]=_;rw[c65];exact ih y hy (by have:=eX hy;simp only[wfO];omega) z L n L (by have:=eX hy;omega) (by have:=eX hy;omega) (by have:=eX hy;omega)
         have hz:IntKind.i64.wrap (((x::l).length:Int)-1)=(l.length:Int):=wrapm (by simp only[lcS]at hlen;omega)
         rw[hz];have:=EqP_loop (c:=CTp L (n+1)) (L:=L) (n1:=fun x0 x1=>yV (CTp L (n+1)) L m x0 x1) (a:=⟨k,nu,d,s,t,x::l⟩) (b:=⟨k',nu',d',s',t',l'⟩) (s:=l.length) (by show(x::l).length=l'.length;omega) (by show(x::l).length<_;omega) rfl l x l' 0 L rfl rfl (by simp only[lcS]at hlen;omega) hC hW
         subst e1 e2 e3 e4 e5;exact this
       ·have e7: ¬l=l':=fun h=>e6 (by rw[h])
        simp[e1,e2,e3,e4,e5,e6,e7,cnd,bb]
      ·simp[e1,e2,e3,e4,e5,cnd,bb]
     ·simp[e1,e2,e3,e4,cnd,bb]
    ·simp[e1,e2,e3,cnd,bb]
   ·simp[e1,e2,cnd,bb]
  ·simp[e1,cnd,bb]
theorem aI6(a:G.O)(hw:wfO a)(b:G.O)(L n:Nat)(hL:osz a≤L)(hn:osz a<n):CTp L n 65 (oo a b)=some (bb (decide (a=b))):=by
 obtain⟨n,rfl⟩: ∃n',n=n'+1:=⟨n-1,by omega⟩
 show CTp L (n+1) 65 [yR 2 _,yR 2 _]=_;rw[c65];exact EqW_ok a hw b L n L hL (by omega) hL
theorem EqB_loop{c:TC0}{L:Nat}{a b:List G.T}(hl:a.length=b.length)(hb:a.length<1000000000): ∀(l r:List G.T) (k m:Nat),a.drop k=l→b.drop k=r→l.length<m→
    (∀x,x∈l→∀y,c 29 (tt2 x y)=some (bb (decide (x=y))))→aBz c L m (a.length:Int) a b (k:Int)=some (bb (decide (l=r))):=by
 intro l;induction l with
 |nil=>
  intro r k m h1 h2 h3 _;obtain⟨m,rfl⟩: ∃m',m=m'+1:=⟨m-1,by simp at h3;omega⟩
  have e1:=aN h1;have e2:r=[]:=by rw[←h2];exact List.drop_eq_nil_of_le (by omega)
  have e3:decide ((k:Int)<(a.length:Int))=false:=by simp;omega
  rw[aBz,B66x1,e3,e2];simp only[aE,decide_true];rfl
 |cons x l ih=>
  intro r k m h1 h2 h3 hc;obtain⟨m,rfl⟩: ∃m',m=m'+1:=⟨m-1,by simp at h3;omega⟩
  obtain⟨a1,a2,a3⟩:=aO h1;cases r with
  |nil=>have:=aN h2;omega
  |cons y r=>
   obtain⟨b1,b2,b3⟩:=aO h2;have e3:decide ((k:Int)<(a.length:Int))=true:=by simp;omega
   have hxy:c 29 [yR 3 x,yR 3 y]=some [yB (decide (x=y))]:=hc x (mhE ..) y;rw[aBz,B66x1,e3,aF,aJ,aJ,a1,b1,bW,bW,hxy,bB,cR (by omega)]
   by_cases e:x=y
   ·subst e;simp only[decide_true,bnT,aE];rw[ih r (k+1) m a3 b3 (by simp at h3;omega) fun z hz=>hc z (mtE _ hz)]
    simp
   ·simp only[e,decide_false,Bool.not_false,aF];simp[e,bb]
theorem EqF_of{a b:List G.T}{L n:Nat}(hw:a.length<1000000000)(hL:a.length<L)(hx: ∀x,x∈a→∀y,CTp L n 29 (tt2 x y)=some (bb (decide (x=y)))):
    CTp L (n+1) 66 (ll2 a b)=some (bb (decide (a=b))):=by
 show CTp L (n+1) 66 [yS 3 _,yS 3 _]=_;rw[c66];simp only[F66,B66x0];by_cases e6:(a.length:Int)=(b.length:Int)
 ·have:=EqB_loop (c:=CTp L n) (L:=L) (by omega) hw a b 0 L rfl rfl hL hx
  rw[e6]at this;simp only[e6,decide_true,bnT,aE];exact this
 ·have e7: ¬a=b:=fun h=>e6 (by rw[h])
  simp[e6,e7,cnd,bb]
theorem TEq_ok: ∀(a:G.T),wfT a→∀(b:G.T) (L n:Nat),tsz a≤L→tsz a≤n→CTp L n 29 (tt2 a b)=some (bb (decide (a=b))):=by
 intro a;induction a using eU with
 |h k nm v l ih=>
  intro hw b L n hL hn;simp only[wfT,tsz]at hw hL hn;have hlen:=bX l;obtain⟨n,rfl⟩: ∃n',n=n'+2:=⟨n-2,by omega⟩
  cases b with|mk k' nm' v' l'=>
  show CTp L (n+1+1) 29 [yR 3 _,yR 3 _]=_;rw[c29];have hv:CTp L (n+1) 65 [yR 2 v,yR 2 v']=some [yB (decide (v=v'))]:=aI6 v (by simp only[wfO];omega) v' L (n+1) (by omega) (by omega)
  have hl:CTp L (n+1) 66 [yS 3 l,yS 3 l']=some [yB (decide (l=l'))]:=EqF_of (by omega) (by omega) fun x hx y=>ih x hx (by have:=aK hx;simp only[wfT];omega) y L n (by have:=aK hx;omega) (by have:=aK hx;omega)
  simp only[F29,B29x0,J29x1,B29x1,G.T.kind,G.T.name,G.T.value,G.T.args,G.T.mk.injEq,hv,hl,bB];by_cases e1:k=k'
  ·by_cases e2:nm=nm'
   ·by_cases e3:v=v'
    ·simp[e1,e2,e3,cnd,bb]
    ·simp[e1,e2,e3,cnd,bb]
   ·simp[e1,e2,cnd,bb]
  ·simp[e1,cnd,bb]
end Go.TV
namespace Go.TV
open Go.AI Go.PI Go.Proofs
theorem EqO_loop{c:TC0}{L:Nat}{a b:G.O}(hl:a.pair.length=b.pair.length)(hb:a.pair.length<1000000000): ∀(l r:List G.O) (k m:Nat),a.pair.drop k=l→b.pair.drop k=r→l.length<m→
    (∀x,x∈l→∀y,c 94 (oo x y)=some (bb (decide (x=y))))→aBv c L m (k:Int) a b=some (bb (decide (l=r))):=by
 intro l;induction l with
 |nil=>
  intro r k m h1 h2 h3 _;obtain⟨m,rfl⟩: ∃m',m=m'+1:=⟨m-1,by simp at h3;omega⟩
  have e1:=aN h1;have e2:r=[]:=by rw[←h2];exact List.drop_eq_nil_of_le (by omega)
  have e3:decide ((k:Int)<(a.pair.length:Int))=false:=by simp;omega
  rw[aBv,B94x2,e3,e2];simp only[aE,decide_true];rfl
 |cons x l ih=>
  intro r k m h1 h2 h3 hc;obtain⟨m,rfl⟩: ∃m',m=m'+1:=⟨m-1,by simp at h3;omega⟩
  obtain⟨a1,a2,a3⟩:=aO h1;cases r with
  |nil=>have:=aN h2;omega
  |cons y r=>
   obtain⟨b1,b2,b3⟩:=aO h2;have e3:decide ((k:Int)<(a.pair.length:Int))=true:=by simp;omega
   have hxy:c 94 [yR 2 x,yR 2 y]=some [yB (decide (x=y))]:=hc x (mhE ..) y;rw[aBv,B94x2,e3,aF,aJ,aJ,a1,b1,bW,bW,hxy,bB,cR (by omega)]
   by_cases e:x=y
   ·subst e;simp only[decide_true,bnT,aE];rw[ih r (k+1) m a3 b3 (by simp at h3;omega) fun z hz=>hc z (mtE _ hz)]
    simp
   ·simp only[e,decide_false,Bool.not_false,aF];simp[e,bb]
theorem aDL: ∀(a:G.O),wfO a→∀(b:G.O) (L n:Nat),osz a≤L→osz a≤n→CTp L n 94 (oo a b)=some (bb (decide (a=b))):=by
 intro a;induction a using kI with
 |h k nu d s t l ih=>
  intro hw b L n hL hn;simp only[wfO,osz]at hw hL hn;have hlen:=aAl l;obtain⟨n,rfl⟩: ∃n',n=n'+1:=⟨n-1,by omega⟩
  cases b with|mk k' nu' d' s' t' l'=>
  show CTp L (n+1) 94 [yR 2 _,yR 2 _]=_;rw[c94];simp only[F94,B94x0,J94x1,B94x1,G.O.kind,G.O.num,G.O.den,G.O.sym,G.O.text,G.O.pair,G.O.mk.injEq];by_cases e1:k=k'
  ·by_cases e2:nu=nu'
   ·by_cases e3:d=d'
    ·by_cases e4:s=s'
     ·by_cases e5:t=t'
      ·by_cases e6:(l.length:Int)=(l'.length:Int)
       ·simp only[e1,e2,e3,e4,e5,e6,decide_true,bnT,aE,true_and];have:=EqO_loop (c:=CTp L n) (L:=L) (a:=⟨k,nu,d,s,t,l⟩) (b:=⟨k',nu',d',s',t',l'⟩) (by show l.length=l'.length;omega) (by show l.length<_;omega) l l' 0 L rfl rfl (by omega) fun x hx y=>ih x hx (by have:=eX hx;simp only[wfO];omega) y L n (by have:=eX hx;omega) (by have:=eX hx;omega)
        subst e1 e2 e3 e4 e5;exact this
       ·have e7: ¬l=l':=fun h=>e6 (by rw[h])
        simp[e1,e2,e3,e4,e5,e6,e7,cnd,bb]
      ·simp[e1,e2,e3,e4,e5,cnd,bb]
     ·simp[e1,e2,e3,e4,cnd,bb]
    ·simp[e1,e2,e3,cnd,bb]
   ·simp[e1,e2,cnd,bb]
  ·simp[e1,cnd,bb]
end Go.TV
namespace Go.TV
open Go.AI Go.PI Go.Proofs
theorem EqA_loop{c:TC0}{L:Nat}{a b:List G.T}(hl:a.length=b.length)(hb:a.length<1000000000): ∀(l r:List G.T) (k m:Nat),a.drop k=l→b.drop k=r→l.length<m→
    (∀x,x∈l→∀y,c 61 (tt2 x y)=some (bb (decide (x=y))))→aBu c L m a b (k:Int)=some (bb (decide (l=r))):=by
 intro l;induction l with
 |nil=>
  intro r k m h1 h2 h3 _;obtain⟨m,rfl⟩: ∃m',m=m'+1:=⟨m-1,by simp at h3;omega⟩
  have e1:=aN h1;have e2:r=[]:=by rw[←h2];exact List.drop_eq_nil_of_le (by omega)
  have e3:decide ((k:Int)<(a.length:Int))=false:=by simp;omega
  rw[aBu,B95x1,e3,e2];simp only[aE,decide_true];rfl
 |cons x l ih=>
  intro r k m h1 h2 h3 hc;obtain⟨m,rfl⟩: ∃m',m=m'+1:=⟨m-1,by simp at h3;omega⟩
  obtain⟨a1,a2,a3⟩:=aO h1;cases r with
  |nil=>have:=aN h2;omega
  |cons y r=>
   obtain⟨b1,b2,b3⟩:=aO h2;have e3:decide ((k:Int)<(a.length:Int))=true:=by simp;omega
   have hxy:c 61 [yR 3 x,yR 3 y]=some [yB (decide (x=y))]:=hc x (mhE ..) y;rw[aBu,B95x1,e3,aF,aJ,aJ,a1,b1,bW,bW,hxy,bB,cR (by omega)]
   by_cases e:x=y
   ·subst e;simp only[decide_true,bnT,aE];rw[ih r (k+1) m a3 b3 (by simp at h3;omega) fun z hz=>hc z (mtE _ hz)]
    simp
   ·simp only[e,decide_false,Bool.not_false,aF];simp[e,bb]
theorem EqAll_of{a b:List G.T}{L n:Nat}(hw:a.length<1000000000)(hL:a.length<L)(hx: ∀x,x∈a→∀y,CTp L n 61 (tt2 x y)=some (bb (decide (x=y)))):
    CTp L (n+1) 95 (ll2 a b)=some (bb (decide (a=b))):=by
 show CTp L (n+1) 95 [yS 3 _,yS 3 _]=_;rw[c95];simp only[F95,B95x0];by_cases e6:(a.length:Int)=(b.length:Int)
 ·simp only[e6,decide_true,bnT,aE];exact EqA_loop (c:=CTp L n) (L:=L) (by omega) hw a b 0 L rfl rfl hL hx
 ·have e7: ¬a=b:=fun h=>e6 (by rw[h])
  simp[e6,e7,cnd,bb]
theorem aI5: ∀(a:G.T),wfT a→∀(b:G.T) (L n:Nat),tsz a≤L→tsz a≤n→CTp L n 61 (tt2 a b)=some (bb (decide (a=b))):=by
 intro a;induction a using eU with
 |h k nm v l ih=>
  intro hw b L n hL hn;simp only[wfT,tsz]at hw hL hn;have hlen:=bX l;obtain⟨n,rfl⟩: ∃n',n=n'+2:=⟨n-2,by omega⟩
  cases b with|mk k' nm' v' l'=>
  show CTp L (n+1+1) 61 [yR 3 _,yR 3 _]=_;rw[c61];have hv:CTp L (n+1) 94 [yR 2 v,yR 2 v']=some [yB (decide (v=v'))]:=aDL v (by simp only[wfO];omega) v' L (n+1) (by omega) (by omega)
  have hl:CTp L (n+1) 95 [yS 3 l,yS 3 l']=some [yB (decide (l=l'))]:=EqAll_of (by omega) (by omega) fun x hx y=>ih x hx (by have:=aK hx;simp only[wfT];omega) y L n (by have:=aK hx;omega) (by have:=aK hx;omega)
  simp only[F61,B61x0,J61x1,B61x1,G.T.kind,G.T.name,G.T.value,G.T.args,G.T.mk.injEq,hv,hl,bB];by_cases e1:k=k'
  ·by_cases e2:nm=nm'
   ·by_cases e3:v=v'
    ·simp[e1,e2,e3,cnd,bb]
    ·simp[e1,e2,e3,cnd,bb]
   ·simp[e1,e2,cnd,bb]
  ·simp[e1,cnd,bb]
end Go.TV
